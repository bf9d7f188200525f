
import Derived.Test.YtjkmipianfkncaaGreatDoorAbsM
set_option linter.unusedSimpArgs false
set_option linter.unusedVariables false
set_option linter.defProp false
namespace Go.Abs
variable {P:Program}
structure Rec where
 dst:Option Nat
 val:Option V
 wr:List (Nat×Blk)
 rd:List Nat
def St.put(s:St)(r:Rec):St:=s.app r.dst r.val r.wr s.nb
def keys(wr:List (Nat×Blk)):List Nat:=wr.map (·.1)
def o8{α:Type}(l m:List (Nat×α))(n:Nat):look (l++m) n=(look l n).or (look m n):=by
 induction l with
 | nil=>rfl
 | cons x l ih=>
  obtain⟨k,v⟩:=x;rw[dq,aR,aR];split
  ·rfl
  ·exact ih
def qm{α:Type}{l:List (Nat×α)}{n:Nat}(h:n∉l.map (·.1)):look l n=none:=by
 induction l with
 | nil=>rfl
 | cons x l ih=>
  obtain⟨k,v⟩:=x;simp only[ge,cT,not_or]at h;rw[aR,ab (λe=>h.1 e.symm)];exact ih h.2
def qz{α:Type}{l:List (Nat×α)}{n:Nat}(h:n∈l.map (·.1)):∃v,look l n=some v:=by
 induction l with
 | nil=>simp at h
 | cons x l ih=>
  obtain⟨k,v⟩:=x;rw[aR];split
  ·exact⟨v,rfl⟩
  ·rename_i a;simp only[ge,cT]at h;exact ih (h.resolve_left λe=>a e.symm)
def NH(s:St)(r:Rec)(t:Nat):look (s.put r).T t=if r.dst=some t then some r.val else look s.T t:=by
 unfold St.put St.app;cases hd:r.dst with
 | none=>simp
 | some d=>
  simp only[aR];by_cases h:d=t
  ·subst h;simp
  ·simp[h]
def NG(s:St)(r:Rec)(b:Nat):look (s.put r).H b=(look r.wr b).or (look s.H b):=o8 _ _ _
def S0(s:St)(r:Rec):(s.put r).nb=s.nb:=rfl
structure Eqv(s s':St):Prop where
 T:∀t,look s.T t=look s'.T t
 H:∀b,look s.H b=look s'.H b
 nb:s.nb=s'.nb
 lo:s.lo=s'.lo
 ro:s.ro=s'.ro
 rb:s.rb=s'.rb
def Eqv.refl(s:St):Eqv s s:=⟨λ_=>rfl,λ_=>rfl,rfl,rfl,rfl,rfl⟩
def Eqv.symm{s s':St}(h:Eqv s s'):Eqv s' s:=⟨λt=>(h.T t).symm,λb=>(h.H b).symm,h.nb.symm,h.lo.symm,h.ro.symm,h.rb.symm⟩
def Eqv.trans{a b c:St}(h:Eqv a b)(k:Eqv b c):Eqv a c:=⟨λt=>(h.T t).trans (k.T t),λt=>(h.H t).trans (k.H t),h.nb.trans k.nb,h.lo.trans k.lo,h.ro.trans k.ro,h.rb.trans k.rb⟩
def Eqv.put{s s':St}(h:Eqv s s')(r:Rec):Eqv (s.put r) (s'.put r):=
 ⟨λt=>by rw[NH,NH,h.T],λb=>by rw[NG,NG,h.H],h.nb,h.lo,h.ro,h.rb⟩
def Eqv.puts:∀(l:List Rec) {s s':St},Eqv s s'->Eqv (l.foldl St.put s) (l.foldl St.put s')
 | [],_,_,h=>h
 | r::l,_,_,h=>Eqv.puts l (h.put r)
def Inv.eqv{n:Nat}{ι0 ι:Inj}{w0:Base}{s s':St}{a:Act}{w:World}(h:Inv n ι0 w0 ι s a w)(e:Eqv s s'):Inv n ι0 w0 ι s' a w:=
 ⟨h.size,h.defers,λt v F=>h.tmps t v (by rw[e.T];exact F),⟨h.mem.inj,λb r C=>by rw[<-e.nb];exact h.mem.low b r C,h.mem.dom,λb blk E hd=>h.mem.blk b blk (by rw[e.H];exact E) hd⟩,by rw[<-e.rb];exact h.ext,h.new,by rw[<-e.ro];exact h.fr,λb r C=>by rw[<-e.lo];exact h.low b r C,by rw[<-e.ro];exact h.fz,by rw[<-e.ro];exact h.gl⟩
def appD:Nat->List Rec->(Nat->Bool)->St->St
 | _,[],_,s=>s
 | i,r::l,D,s=>appD (i+1) l D (if D i=true then s.put r else s)
def wJ:Nat->List Rec->(Nat->Bool)->Nat->Option (Option V)->Option (Option V)
 | _,[],_,_,x=>x
 | i,r::l,D,t,x=>wJ (i+1) l D t (if D i=true/\r.dst=some t then some r.val else x)
def wK:Nat->List Rec->(Nat->Bool)->Nat->Option Blk->Option Blk
 | _,[],_,_,x=>x
 | i,r::l,D,b,x=>wK (i+1) l D b (if D i=true then(look r.wr b).or x else x)
def yu:∀(l:List Rec) (i:Nat) (D:Nat->Bool) (s:St) (t:Nat),look (appD i l D s).T t=wJ i l D t (look s.T t)
 | [],_,_,_,_=>rfl
 | r::l,i,D,s,t=>by
  simp only[appD,wJ,yu l];congr 1;cases D i
  ·simp
  ·simp only[jg,aH];rw[NH]
def vq:∀(l:List Rec) (i:Nat) (D:Nat->Bool) (s:St) (b:Nat),look (appD i l D s).H b=wK i l D b (look s.H b)
 | [],_,_,_,_=>rfl
 | r::l,i,D,s,b=>by
  simp only[appD,wK,vq l];congr 1;cases D i
  ·simp
  ·simp only[aH];rw[NG]
def kX:∀(l:List Rec) (i:Nat) (D:Nat->Bool) (s:St),(appD i l D s).nb=s.nb
 | [],_,_,_=>rfl
 | r::l,i,D,s=>by
  simp only[appD,kX l];split<;>rfl
def iN:∀(l:List Rec) (i:Nat) (D:Nat->Bool) (s:St),(appD i l D s).ro=s.ro
 | [],_,_,_=>rfl
 | r::l,i,D,s=>by
  simp only[appD,iN l];split<;>rfl
def vV:∀(l:List Rec) (i:Nat) (D:Nat->Bool) (s:St),(appD i l D s).lo=s.lo
 | [],_,_,_=>rfl
 | r::l,i,D,s=>by
  simp only[appD,vV l];split<;>rfl
def vv:∀(l:List Rec) (i:Nat) (D:Nat->Bool) (s:St),(appD i l D s).rb=s.rb
 | [],_,_,_=>rfl
 | r::l,i,D,s=>by
  simp only[appD,vv l];split<;>rfl
def rZ:∀(l:List Rec) (i:Nat) (D a:Nat->Bool) (t:Nat) (x:Option (Option V)),(∀j r,l[j]?=some r->r.dst=some t->D (i+j)=a (i+j))->wJ i l D t x=wJ i l a t x
 | [],_,_,_,_,_,_=>rfl
 | r::l,i,D,a,t,x,h=>by
  simp only[wJ];have b:=h 0 r (by simp);simp only[ct]at b;rw[rZ l (i+1) D a t _ λj e c d=>by have:=h (j+1) e (by simpa using c) d;rwa[show i+(j+1)=i+1+j by omega]at this];congr 1;by_cases hd:r.dst=some t
  ·rw[b hd]
  ·simp[hd]
def xW(l:List Rec)(i:Nat)(D:Nat->Bool)(t:Nat)(x:Option (Option V))(h:∀j r,l[j]?=some r->r.dst=some t->D (i+j)=false):wJ i l D t x=x:=by
 induction l generalizing i x with
 | nil=>rfl
 | cons r l ih=>
  simp only[wJ];have a:=h 0 r (by simp);simp only[ct]at a;have:¬(D i=true/\r.dst=some t):=λ⟨b,d⟩=>by rw[a d]at b;cases b
  rw[ab this];exact ih (i+1) x λj f c e=>by have:=h (j+1) f (by simpa using c) e;rwa[show i+(j+1)=i+1+j by omega]at this
def Fg:∀(l:List Rec) (i j:Nat) (D:Nat->Bool) (t:Nat) (x:Option (Option V)) (r:Rec),l[j]?=some r->D (i+j)=true->r.dst=some t->
  (∀k b,j<k->l[k]?=some b->b.dst=some t->D (i+k)=false)->wJ i l D t x=some r.val
 | [],_,_,_,_,_,_,h,_,_,_=>by simp at h
 | r0::l,i,0,D,t,x,r,h,d,hd,a=>by
  simp only[lO,ar]at h;subst h;simp only[ct]at d;simp only[wJ];rw[ae ⟨d,hd⟩];exact xW l (i+1) D t _ λk b e c=>by have:=a (k+1) b (by omega) (by simpa using e) c;rwa[show i+(k+1)=i+1+k by omega]at this
 | r0::l,i,j+1,D,t,x,r,h,d,hd,a=>by
  simp only[wJ]
  exact Fg l (i+1) j D t _ r (by simpa using h) (by rwa[show i+1+j=i+(j+1)by omega]) hd λk b e f c=>by
   have:=a (k+1) b (by omega) (by simpa using f) c;rwa[show i+(k+1)=i+1+k by omega]at this
def ov:∀(l:List Rec) (i:Nat) (D a:Nat->Bool) (b:Nat) (x:Option Blk),(∀j r,l[j]?=some r->b∈keys r.wr->D (i+j)=a (i+j))->wK i l D b x=wK i l a b x
 | [],_,_,_,_,_,_=>rfl
 | r::l,i,D,a,b,x,h=>by
  simp only[wK];have c:=h 0 r (by simp);simp only[ct]at c;rw[ov l (i+1) D a b _ λj f d e=>by have:=h (j+1) f (by simpa using d) e;rwa[show i+(j+1)=i+1+j by omega]at this];congr 1;by_cases hd:b∈keys r.wr
  ·rw[c hd]
  ·simp[qm hd]
def GX(l:List Rec)(i:Nat)(D:Nat->Bool)(b:Nat)(x:Option Blk)(h:∀j r,l[j]?=some r->b∈keys r.wr->D (i+j)=false):wK i l D b x=x:=by
 induction l generalizing i x with
 | nil=>rfl
 | cons r l ih=>
  simp only[wK];have a:=h 0 r (by simp);simp only[ct]at a;have:(if D i=true then(look r.wr b).or x else x)=x:=by
   by_cases hd:b∈keys r.wr
   ·rw[a hd];simp
   ·rw[qm hd];simp
  rw[this];exact ih (i+1) x λj d c e=>by have:=h (j+1) d (by simpa using c) e;rwa[show i+(j+1)=i+1+j by omega]at this
def E9:∀(l:List Rec) (i j:Nat) (D:Nat->Bool) (b:Nat) (x:Option Blk) (r:Rec),l[j]?=some r->D (i+j)=true->b∈keys r.wr->
  (∀k c,j<k->l[k]?=some c->b∈keys c.wr->D (i+k)=false)->wK i l D b x=look r.wr b
 | [],_,_,_,_,_,_,h,_,_,_=>by simp at h
 | r0::l,i,0,D,b,x,r,h,e,hd,a=>by
  simp only[lO,ar]at h;subst h;simp only[ct]at e;simp only[wK];obtain⟨v,m⟩:=qz hd;rw[ae e,m];exact GX l (i+1) D b _ λk c f d=>by have:=a (k+1) c (by omega) (by simpa using f) d;rwa[show i+(k+1)=i+1+k by omega]at this
 | r0::l,i,j+1,D,b,x,r,h,e,hd,a=>by
  simp only[wK]
  exact E9 l (i+1) j D b _ r (by simpa using h) (by rwa[show i+1+j=i+(j+1)by omega]) hd λk c f g d=>by
   have:=a (k+1) c (by omega) (by simpa using g) d;rwa[show i+(k+1)=i+1+k by omega]at this
def pD:∀(l:List Rec) (i j:Nat) (s:St),Eqv ((l.take j).foldl St.put s) (appD i l (λm=>decide (m<i+j)) s)
 | [],i,j,s=>by simp[appD];exact Eqv.refl s
 | r::l,i,0,s=>by
  have:∀(l:List Rec) (i a:Nat) (s:St),i<=a->appD a l (λm=>decide (m<i)) s=s:=by
   intro l
   induction l with
   | nil=>intros;rfl
   | cons r l ih=>intro i a s h;simp only[appD,show¬a<i by omega,mY,bs,aC];exact ih i (a+1) s (by omega)
  simp only[nA,ER,ct];rw[this (r::l) i i s (aQ _)];exact Eqv.refl s
 | r::l,i,j+1,s=>by
  simp only[oI,ux,appD,show i<i+(j+1)by omega,nJ,aH];have:=pD l (i+1) j (s.put r);rwa[show(λm=>decide (m<i+1+j))=λm=>decide (m<i+(j+1))by funext m;simp only[oC];omega]at this
def zY:∀(l:List Rec) (i:Nat) (D:Nat->Bool) (s:St),(∀j,j<l.length->D (i+j)=true)->appD i l D s=l.foldl St.put s
 | [],_,_,_,_=>rfl
 | r::l,i,D,s,h=>by
  have a:=h 0 (by simp);simp only[ct]at a;simp only[appD,a,aH,ux];exact zY l (i+1) D _ λj b=>by have:=h (j+1) (by simpa using b);rwa[show i+(j+1)=i+1+j by omega]at this
def tn(P:Program)(n nb0:Nat)(ops:List Oper)(i:Nat)(o:Oper)(r:Rec)(base:St):Prop:=
 ∀s':St,(∀t∈o.looksAt ops.toArray,look s'.T t=look base.T t)->(∀b∈r.rd,look s'.H b=look base.H b)->s'.nb=base.nb->s'.ro=base.ro->
  ∀(ι0:Inj) (w0:Base) (ι:Inj) (a:Act) (w:World),Inv n ι0 w0 ι s' a w->(∀b,nb0+8*i<=b->b<nb0+8*i+8->ι b=none)->∀(K:Act->World->Prop) (Q:Exit->Act->World->Prop),
   (∀c d w',(∀b,(b<nb0+8*i\/nb0+8*i+8<=b)->c b=ι b)->Inv n ι0 w0 c (s'.put r) d w'->K d w')->
   if Region.wanted o (yielded ops.toArray a.tmps)then o.wp P a w K Q else K (a.put o.dst undef) w
def yM(P:Program)(n nb0:Nat)(ops:List Oper)(i:Nat)(o:Oper)(v:V)(wr:List (Nat×Blk))(rd:List Nat)(base:St):Prop:=
 ∀s':St,(∀t∈o.looksAt ops.toArray,look s'.T t=look base.T t)->(∀b∈rd,look s'.H b=look base.H b)->s'.nb=base.nb->s'.ro=base.ro->
  ∀(ι0:Inj) (w0:Base) (ι:Inj) (a:Act) (w:World),Inv n ι0 w0 ι s' a w->(∀b,nb0+8*i<=b->b<nb0+8*i+8->ι b=none)->∀(K:Act->World->Prop) (Q:Exit->Act->World->Prop),
   (∀c x w',VR c v x->Inv n ι0 w0 c (s'.app none none wr s'.nb) a w'->Q (.panic [{ v:=x,recovered:=false }]) a w')->
   Region.wanted o (yielded ops.toArray a.tmps)=true/\o.wp P a w K Q
def yM.eqv{n nb0:Nat}{ops:List Oper}{i:Nat}{o:Oper}{v:V}{wr:List (Nat×Blk)}{rd:List Nat}{base C:St}(h:yM P n nb0 ops i o v wr rd base)(e:Eqv base C):yM P n nb0 ops i o v wr rd C:=
 λs' G E J F=>h s' (λt Q=>by rw[G t Q,e.T]) (λb O=>by rw[E b O,e.H]) (by rw[J,e.nb]) (by rw[F,e.ro])
def tn.eqv{n nb0:Nat}{ops:List Oper}{i:Nat}{o:Oper}{r:Rec}{base C:St}(h:tn P n nb0 ops i o r base)(e:Eqv base C):tn P n nb0 ops i o r C:=
 λs' G E J F=>h s' (λt Q=>by rw[G t Q,e.T]) (λb O=>by rw[E b O,e.H]) (by rw[J,e.nb]) (by rw[F,e.ro])
def yv{α:Type}{ops:List Oper}{o:Oper}{s:St}{k:Bool->St->Option α}{z:α}(h:vB ops o s k=some z):
  ∃c q,k c q=some z/\Eqv q s/\∀s':St,(∀t∈o.looksAt ops.toArray,look s'.T t=look s.T t)->∀(n:Nat) (ι0 ι:Inj) (w0:Base) (a:Act) (w:World),Inv n ι0 w0 ι s' a w->
   Region.wanted o (yielded ops.toArray a.tmps)=c:=by
 unfold vB at h;split at h
 ·rename_i i;exact⟨true,s,h,Eqv.refl s,λ_ _ _ _ _ _ _ _ _=>by simp[Region.wanted,i]⟩
 ·rename_i j c i;split at h
  case h_2=>cases h
  rename_i d hd;have f:d∈o.looksAt ops.toArray:=by
   unfold Oper.looksAt;unfold gtmp at hd;split at hd
   ·rename_i u p;simp[i,p,hd]
   ·cases hd
  have again:∀x,look s.T d=some (some (.b x))->Eqv { s with T:=(d,some (V.b x))::s.T } s:=by
   intro x hx;refine⟨λt=>?_,λ_=>rfl,rfl,rfl,rfl,rfl⟩;show look ((d,some (V.b x))::s.T) t=look s.T t;rw[aR];split
   ·rename_i e;subst e;exact hx.symm
   ·rfl
  split at h
  ·rename_i x hx;cases x
   ·refine⟨!c,_,h,again _ hx,λs' hs n ι0 ι w0 a w l=>?_⟩;obtain⟨y,m,g⟩:=l.tmps d _ (by rw[hs d f];exact hx);simp only[VR]at g;subst g;have hy:=qD hd a.tmps;rw[m]at hy;cases c<;>simp[Region.wanted,i,hy]
   ·refine⟨c,_,h,again _ hx,λs' hs n ι0 ι w0 a w l=>?_⟩;obtain⟨y,m,g⟩:=l.tmps d _ (by rw[hs d f];exact hx);simp only[VR]at g;subst g;have hy:=qD hd a.tmps;rw[m]at hy;cases c<;>simp[Region.wanted,i,hy]
  ·rename_i hx;refine⟨false,s,h,Eqv.refl s,λs' hs n ι0 ι w0 a w l=>?_⟩;obtain⟨y,m,g⟩:=l.tmps d _ (by rw[hs d f];exact hx);simp only[VR]at g;obtain⟨r,rfl,_⟩:=g;have hy:=qD hd a.tmps;rw[m]at hy;simp[Region.wanted,i,hy]
  ·cases h
def wH{ops:Array Oper}{o:Oper}{s s':St}(h:∀t∈o.looksAt ops,look s'.T t=look s.T t):∀x∈o.op.operands.toList,opd s'.T x=opd s.T x:=by
 intro x hx;cases x with
 | tmp t=>
  have:=h t (by
   unfold Oper.looksAt;simp only[lV,List.mem_filterMap];exact .inl ⟨.tmp t,hx,rfl⟩)
  simp only[opd,this]
 | _=>rfl
def KL{α:Type}{E:List Ent}(V:∀x∈E,fK P x){n nb0:Nat}{ops:List Oper}{masks:List Nat}{p:Nat}{k:List TE->Option α}{z:α}:∀(l:List Oper) (i:Nat) (s:St) (tr:List TE),
  nb0+8*(i+l.length)<=s.nb->runB P E n nb0 ops masks p i l s tr k=some z->
  ∃(recs:List Rec) (trf:List TE),recs.length=l.length/\k trf=some z/\(∀x∈tr,x∈trf)/\
   (∀j r,recs[j]?=some r->(⟨i+j,r.rd,keys r.wr⟩:TE)∈trf\/(r.rd=[]/\r.wr=[]))/\
   ∀(j:Nat) (o:Oper) (r:Rec),l[j]?=some o->recs[j]?=some r->r.dst=o.dst/\((getN masks (i+j)).testBit p=false->tn P n nb0 ops (i+j) o r ((recs.take j).foldl St.put s))
 | [],i,s,tr,G,h=>⟨[],tr,rfl,h,λ_ h=>h,λj r h=>by simp at h,λj o r h=>by simp at h⟩
 | o::l,i,s,tr,G,h=>by
  simp only[aP]at G;simp only[runB]at h;have more:∀(e:Rec) (d:List TE) (F:St),e.dst=o.dst->((getN masks i).testBit p=false->tn P n nb0 ops i o e s)->Eqv F (s.put e)->s.nb<=F.nb->(∀x∈tr,x∈d)->((⟨i,e.rd,keys e.wr⟩:TE)∈d\/(e.rd=[]/\e.wr=[]))->
    runB P E n nb0 ops masks p (i+1) l F d k=some z->∃(recs:List Rec) (trf:List TE),recs.length=(o::l).length/\k trf=some z/\(∀x∈tr,x∈trf)/\
   (∀j r,recs[j]?=some r->(⟨i+j,r.rd,keys r.wr⟩:TE)∈trf\/(r.rd=[]/\r.wr=[]))/\
   ∀(j:Nat) (y:Oper) (r:Rec),(o::l)[j]?=some y->recs[j]?=some r->r.dst=y.dst/\((getN masks (i+j)).testBit p=false->tn P n nb0 ops (i+j) y r ((recs.take j).foldl St.put s)):=by
   intro e d F hd hl e2 X M N h;obtain⟨recs,trf,g1,g2,g4,g5,g6⟩:=KL V l (i+1) F d (by omega) h;refine⟨e::recs,trf,by simp[g1],g2,λx hx=>g4 x (M x hx),λj r m=>?_,λj y r R m=>?_⟩
   ·cases j with
    | zero=>simp only[lO,ar]at m;subst m;exact N.imp (g4 _) id
    | succ j=>have:=g5 j r (by simpa using m);rwa[show i+1+j=i+(j+1)by omega]at this
   ·cases j with
    | zero=>
     simp only[lO,ar]at R m;subst R m;exact⟨hd,hl⟩
    | succ j=>
     obtain⟨p1,Y⟩:=g6 j y r (by simpa using R) (by simpa using m);rw[show i+1+j=i+(j+1)by omega]at Y;exact⟨p1,λu=>(Y u).eqv (by simpa using Eqv.puts (recs.take j) e2)⟩
  split at h
  ·rename_i D;exact more ⟨o.dst,none,[],[]⟩ tr (s.app o.dst none [] s.nb) rfl (λu=>by rw[D]at u;cases u) (Eqv.refl _) (aQ _) (λ_ h=>h) (.inr ⟨rfl,rfl⟩) h
  obtain⟨I,C,h,q,hw⟩:=yv h;have c:C.nb=s.nb:=q.nb;cases I
  ·simp only at h;split at h
   case h_2=>cases h
   rename_i hd;refine more ⟨o.dst,some (.tp []),[],[]⟩ tr (C.app o.dst (some (.tp [])) [] C.nb) rfl (λ_ s' J U Z W ι0 w0 ι a w B A K Q L=>?_) (q.put ⟨o.dst,some (.tp []),[],[]⟩) (xp c.symm) (λ_ h=>h) (.inr ⟨rfl,rfl⟩) h;rw[hw s' J n ι0 ι w0 a w B];simp only[bs,aC];exact L ι _ _ (λ_ _=>rfl) (B.skip hd)
  ·simp only at h;rcases AU V (by omega) h with⟨val,wr,rd,g,S,f⟩ | ⟨v,wr,rd,S,f⟩
   ·refine more ⟨o.dst,val,wr,rd⟩ (⟨i,rd,keys wr⟩::tr) (C.app o.dst val wr C.nb) rfl (λ_ s' J U Z W ι0 w0 ι a w B A K Q L=>?_) (q.put ⟨o.dst,val,wr,rd⟩) (xp c.symm) (λx hx=>gW _ hx) (.inl (by simp[keys])) S;rw[hw s' J n ι0 ι w0 a w B];simp only[aH];refine f s' (wH λt ht=>by rw[J t ht,q.T]) (λb u=>by rw[U b u,q.H]) (by rw[Z,c]) (by rw[W,q.ro]) ι0 w0 ι a w B (by simpa using A) K Q λO a' w' z1 z2=>L O a' w' (by simpa using z1) z2
   ·cases S
def yZ {α:Type} {E:List Ent} (hE:∀x∈E,fK P x) {n nb0:Nat} {ops:List Oper} {masks:List Nat} {k:St->List TE->Option α} {kp:Nat->V->St->List TE->Option α} {z:α}:∀(l:List Oper) (i:Nat) (s:St) (tr:List TE),
  nb0+8*(i+l.length)<=s.nb->runD P E n nb0 ops masks kp i l s tr k=some z->
  (∃(recs:List Rec) (d:St) (trf:List TE),recs.length=l.length/\k d trf=some z/\Eqv d (recs.foldl St.put s)/\(∀x∈tr,x∈trf)/\
   (∀j r,recs[j]?=some r->(⟨i+j,r.rd,keys r.wr⟩:TE)∈trf\/(r.rd=[]/\r.wr=[]))/\
   ∀(j:Nat) (o:Oper) (r:Rec),l[j]?=some o->recs[j]?=some r->r.dst=o.dst/\tn P n nb0 ops (i+j) o r ((recs.take j).foldl St.put s))\/
  (∃(p:Nat) (op:Oper) (recs:List Rec) (d:St) (J:St) (trf:List TE) (v:V) (wr:List (Nat×Blk)) (u:Rec),recs.length=l.length/\l[p]?=some op/\recs[p]?=some u/\u.dst=op.dst/\u.wr=[]/\J=d.app none none wr d.nb/\kp (i+p) v J trf=some z/\Eqv d ((recs.take p).foldl St.put s)/\(∀x∈tr,x∈trf)/\
   yM P n nb0 ops (i+p) op v wr u.rd ((recs.take p).foldl St.put s)/\
   (∀j r,recs[j]?=some r->j≠p->(⟨i+j,r.rd,keys r.wr⟩:TE)∈trf\/(r.rd=[]/\r.wr=[]))/\
   ∀(j:Nat) (o:Oper) (r:Rec),l[j]?=some o->recs[j]?=some r->r.dst=o.dst/\((j<p\/(p<j/\(getN masks (i+j)).testBit (i+p)=false))->tn P n nb0 ops (i+j) o r ((recs.take j).foldl St.put s)))
 | [],i,s,tr,hnb,h=>.inl ⟨[],s,tr,rfl,h,Eqv.refl s,λ_ h=>h,λj r h=>by simp at h,λj o r h=>by simp at h⟩
 | o::l,i,s,tr,hnb,h=>by
  simp only [aP] at hnb;simp only [runD] at h;obtain ⟨want,G,h,q,hw⟩:=yv h;have e:G.nb=s.nb:=q.nb;have more:∀(B:Rec) (m:List TE) (s2:St),B.dst=o.dst->tn P n nb0 ops i o B s->Eqv s2 (s.put B)->s.nb<=s2.nb->(∀x∈tr,x∈m)->((⟨i,B.rd,keys B.wr⟩:TE)∈m\/(B.rd=[]/\B.wr=[]))->
    runD P E n nb0 ops masks kp (i+1) l s2 m k=some z->
    (∃(recs:List Rec) (d:St) (trf:List TE),recs.length=(o::l).length/\k d trf=some z/\Eqv d (recs.foldl St.put s)/\(∀x∈tr,x∈trf)/\
   (∀j r,recs[j]?=some r->(⟨i+j,r.rd,keys r.wr⟩:TE)∈trf\/(r.rd=[]/\r.wr=[]))/\
   ∀(j:Nat) (f:Oper) (r:Rec),(o::l)[j]?=some f->recs[j]?=some r->r.dst=f.dst/\tn P n nb0 ops (i+j) f r ((recs.take j).foldl St.put s))\/
    (∃(p:Nat) (op:Oper) (recs:List Rec) (d:St) (J:St) (trf:List TE) (v:V) (wr:List (Nat×Blk)) (u:Rec),recs.length=(o::l).length/\(o::l)[p]?=some op/\recs[p]?=some u/\u.dst=op.dst/\u.wr=[]/\J=d.app none none wr d.nb/\kp (i+p) v J trf=some z/\Eqv d ((recs.take p).foldl St.put s)/\(∀x∈tr,x∈trf)/\
   yM P n nb0 ops (i+p) op v wr u.rd ((recs.take p).foldl St.put s)/\
   (∀j r,recs[j]?=some r->j≠p->(⟨i+j,r.rd,keys r.wr⟩:TE)∈trf\/(r.rd=[]/\r.wr=[]))/\
   ∀(j:Nat) (f:Oper) (r:Rec),(o::l)[j]?=some f->recs[j]?=some r->r.dst=f.dst/\((j<p\/(p<j/\(getN masks (i+j)).testBit (i+p)=false))->tn P n nb0 ops (i+j) f r ((recs.take j).foldl St.put s))):=by
   intro B m s2 hd hl L hnb2 X Y h;rcases yZ hE l (i+1) s2 m (by omega) h with ⟨recs,d,trf,g1,N,g3,M,O,g6⟩ | ⟨p,op,recs,d,J,trf,v,wr,u,g1,g0,gr,gd,gw,gs,N,g3,M,g7,O,g6⟩
   ·refine .inl ⟨B::recs,d,trf,by simp [g1],N,g3.trans (Eqv.puts recs L),λx hx=>M x (X x hx),λj r c=>?_,λj f r A c=>?_⟩
    ·cases j with
     | zero=>simp only [lO,ar] at c;subst c;exact Y.imp (M _) id
     | succ j=>have:=O j r (by simpa using c);rwa [show i+1+j=i+(j+1) by omega] at this
    ·cases j with
     | zero=>
      simp only [lO,ar] at A c;subst A c;exact ⟨hd,hl⟩
     | succ j=>
      obtain ⟨U,I⟩:=g6 j f r (by simpa using A) (by simpa using c);rw [show i+1+j=i+(j+1) by omega] at I;exact ⟨U,I.eqv (by simpa using Eqv.puts (recs.take j) L)⟩
   ·rw [show i+1+p=i+(p+1) by omega] at N g7;refine .inr ⟨p+1,op,B::recs,d,J,trf,v,wr,u,by simp [g1],by simpa using g0,by simpa using gr,gd,gw,gs,N,g3.trans (by simpa using Eqv.puts (recs.take p) L),λx hx=>M x (X x hx),g7.eqv (by simpa using Eqv.puts (recs.take p) L),λj r c R=>?_,λj f r A c=>?_⟩
    ·cases j with
     | zero=>simp only [lO,ar] at c;subst c;exact Y.imp (M _) id
     | succ j=>have:=O j r (by simpa using c) (by omega);rwa [show i+1+j=i+(j+1) by omega] at this
    ·cases j with
     | zero=>
      simp only [lO,ar] at A c;subst A c;exact ⟨hd,λ_=>hl⟩
     | succ j=>
      obtain ⟨U,I⟩:=g6 j f r (by simpa using A) (by simpa using c);rw [show i+1+j=i+(j+1) by omega,show i+1+p=i+(p+1) by omega] at I;exact ⟨U,λhc=>(I (hc.imp (λh=>by omega) λh=>⟨by omega,h.2⟩)).eqv (by simpa using Eqv.puts (recs.take j) L)⟩
  cases want
  ·simp only at h;split at h
   case h_2=>cases h
   rename_i hd;refine more ⟨o.dst,some (.tp []),[],[]⟩ tr (G.app o.dst (some (.tp [])) [] G.nb) rfl (λs' D W q3 Z ι0 w0 ι a w F C K Q S=>?_) (q.put ⟨o.dst,some (.tp []),[],[]⟩) (xp e.symm) (λ_ h=>h) (.inr ⟨rfl,rfl⟩) h;rw [hw s' D n ι0 ι w0 a w F];simp only [bs,aC];exact S ι _ _ (λ_ _=>rfl) (F.skip hd)
  ·simp only at h;rcases AU hE (by omega) h with ⟨val,wr,rd,g,hk,y⟩ | ⟨v,wr,rd,hk,y⟩
   ·refine more ⟨o.dst,val,wr,rd⟩ (⟨i,rd,keys wr⟩::tr) (G.app o.dst val wr G.nb) rfl (λs' D W q3 Z ι0 w0 ι a w F C K Q S=>?_) (q.put ⟨o.dst,val,wr,rd⟩) (xp e.symm) (λx hx=>gW _ hx) (.inl (by simp [keys])) hk;rw [hw s' D n ι0 ι w0 a w F];simp only [aH];refine y s' (wH λt ht=>by rw [D t ht,q.T]) (λb hb=>by rw [W b hb,q.H]) (by rw [q3,e]) (by rw [Z,q.ro]) ι0 w0 ι a w F (by simpa using C) K Q λι' a' w' z1 z2=>S ι' a' w' (by simpa using z1) z2
   ·obtain ⟨recs,trf,g1,N,M,O,g6⟩:=KL hE l (i+1) _ tr (by simp only [St.app];omega) hk;have L:Eqv (G.app o.dst none [] G.nb) (s.put ⟨o.dst,none,[],rd⟩):=q.put ⟨o.dst,none,[],rd⟩;refine .inr ⟨0,o,⟨o.dst,none,[],rd⟩::recs,G,_,trf,v,wr,⟨o.dst,none,[],rd⟩,by simp [g1],rfl,rfl,rfl,rfl,rfl,N,q,M,λs' D W q3 Z ι0 w0 ι a w F C K Q S=>?_,λj r c R=>?_,λj f r A c=>?_⟩
    ·simp only [nA,ER] at D W q3 Z;exact ⟨hw s' D n ι0 ι w0 a w F,y s' (wH λt ht=>by rw [D t ht,q.T]) (λb hb=>by rw [W b hb,q.H]) (by rw [q3,e]) (by rw [Z,q.ro]) ι0 w0 ι a w F (by simpa using C) K Q S⟩
    ·cases j with
     | zero=>exact absurd rfl R
     | succ j=>have:=O j r (by simpa using c);rwa [show i+1+j=i+(j+1) by omega] at this
    ·cases j with
     | zero=>
      simp only [lO,ar] at A c;subst A c;exact ⟨rfl,λh=>by omega⟩
     | succ j=>
      obtain ⟨U,I⟩:=g6 j f r (by simpa using A) (by simpa using c);rw [show i+1+j=i+(j+1) by omega] at I;refine ⟨U,λhc=>(I ?_).eqv (by simpa using Eqv.puts (recs.take j) L)⟩;rcases hc with hc | hc
      ·omega
      ·exact hc.2
def Down(ops:List Oper)(D:Nat->Bool):Prop:=∀j o e,ops[j]?=some o->D j=true->e∈o.after.toList->Region.binds .any e=true->D e.on=true
def Must(ops:List Oper)(i j:Nat):Prop:=∀D,Down ops D->D j=true->D i=true
def Dn(a:Array Bool):Nat->Bool:=λi=>a.getD i false
structure DrawFacts(P:Program)(n nb0:Nat)(ops:List Oper)(recs:List Rec)(s0:St)(live:Nat->Prop):Prop where
 len:recs.length=ops.length
 nb:s0.nb=nb0+8*ops.length
 loc:∀(j:Nat) (o:Oper) (r:Rec),ops[j]?=some o->recs[j]?=some r->(∀t,r.dst=some t->o.dst=some t)/\(live j->tn P n nb0 ops j o r (appD 0 recs (λm=>decide (m<j)) s0))
 down:∀(j:Nat) (o:Oper) (e:Edge),ops[j]?=some o->e∈o.after.toList->Region.binds .any e=true->e.on<j
 apart:∀(i j:Nat) (x y:Oper),i<j->ops[i]?=some x->ops[j]?=some y->Must ops i j\/x.apart ops.toArray y=true
 blk:∀(i j:Nat) (x y:Rec),i<j->recs[i]?=some x->recs[j]?=some y->Must ops i j\/((∀b∈keys x.wr,b∉y.rd/\b∉keys y.wr)/\∀b∈x.rd,b∉keys y.wr)
def sg{ops:List Oper}{a:Array Bool}{i:Nat}(hs:a.size=ops.length)(h:i∈Region.ready .any ops.toArray a):
  ∃o,ops[i]?=some o/\i<ops.length/\Dn a i=false/\∀e∈o.after.toList,Region.binds .any e=true->Dn a e.on=true:=by
 unfold Region.ready at h;simp only[mW,kx,aB,zH]at h;obtain⟨d,b,f⟩:=h;have c:ops[i]?=some ops[i]:=by simp[d]
 refine⟨ops[i],c,d,?_,λe g j=>?_⟩
 ·unfold Dn;have:i<a.size:=by omega
  simp only[qg,RD this,wn]at b ⊢;simpa using b
 ·simp only[List.getElem?_toArray,c,eO,wn]at f;have:=(Array.all_eq_true'.1 f) e (by simpa using g);simp only[j,bV,od]at this;exact this
def AH{ops:List Oper}{a:Array Bool}{i:Nat}{o:Oper}(hs:a.size=ops.length)(c:ops[i]?=some o)(d:Dn a i=false)
  (hd:∀e∈o.after.toList,Region.binds .any e=true->Dn a e.on=true):i∈Region.ready .any ops.toArray a:=by
 have hi:i<ops.length:=by
  rcases aF i ops.length with b | b
  ·exact b
  ·rw[gC b]at c;cases c
 unfold Region.ready;simp only[mW,kx,aB,zH];refine⟨hi,?_,?_⟩
 ·have:i<a.size:=by omega
  unfold Dn at d;simp only[qg,RD this,wn]at d ⊢;simp[d]
 ·simp only[List.getElem?_toArray,c,eO,wn];refine Array.all_eq_true'.2 λe f=>?_;cases g:Region.binds .any e with
  | false=>rfl
  | true=>
   have:=hd e (by simpa using f) g;unfold Dn at this;simpa using this
def xR{a:Array Bool}{i:Nat}(h:i<a.size)(j:Nat):Dn (a.setIfInBounds i true) j=if j=i then true else Dn a j:=by
 unfold Dn;simp only[qg];rw[Q8];by_cases b:i=j
 ·subst b;simp[h]
 ·simp[b,show¬j=i fromλe=>b e.symm]
def Down.add{ops:List Oper}{D:Nat->Bool}(h:Down ops D){i:Nat}{o:Oper}(O:ops[i]?=some o)(hd:∀e∈o.after.toList,Region.binds .any e=true->D e.on=true):
  Down ops λj=>if j=i then true else D j:=by
 intro j Q e E G F J;show(if e.on=i then true else D e.on)=true;by_cases C:j=i
 ·subst C;rw[O]at E;cases E;have:=hd e F J;split
  ·rfl
  ·exact this
 ·simp only[C,aC]at G;have:=h j Q e E G F J;split
  ·rfl
  ·exact this
def Must.in{ops:List Oper}{D:Nat->Bool}(h:Down ops D){i k:Nat}{o:Oper}(F:ops[i]?=some o)(hd:∀e∈o.after.toList,Region.binds .any e=true->D e.on=true)
  (E:Must ops k i) (C:k≠i):D k=true:=by
 have:=E _ (h.add F hd) (by simp);simpa[C]using this
section
variable {n nb0:Nat} {ops:List Oper} {recs:List Rec} {s0:St} {live:Nat->Prop} (F:DrawFacts P n nb0 ops recs s0 live)
include F
def wQ{i:Nat}{o:Oper}(h:ops[i]?=some o):∃r,recs[i]?=some r:=by
 have hi:i<ops.length:=by
  rcases aF i ops.length with h' | h'
  ·exact h'
  ·rw[gC h']at h;cases h
 exact⟨recs[i]'(by rw[F.len];exact hi),by simp[F.len,hi]⟩
def wS{i:Nat}{r:Rec}(h:recs[i]?=some r):∃o,ops[i]?=some o:=by
 have hi:i<recs.length:=by
  rcases aF i recs.length with h' | h'
  ·exact h'
  ·rw[gC h']at h;cases h
 exact⟨ops[i]'(by rw[<-F.len];exact hi),by simp[F.len▸hi]⟩
def An{D:Nat->Bool}(s:Down ops D){i:Nat}{o:Oper}(k:ops[i]?=some o)(u:D i=false)(hd:∀e∈o.after.toList,Region.binds .any e=true->D e.on=true)
  {t:Nat} (v:t∈o.looksAt ops.toArray):look (appD 0 recs D s0).T t=look (appD 0 recs (λm=>decide (m<i)) s0).T t:=by
 rw[yu,yu];refine rZ recs 0 _ _ t _ λj r q w=>?_;simp only[dc];obtain⟨p,c⟩:=wS F q;have a:=((F.loc j p r c q).1 t w).symm;rcases Ep j i with d | f | h
 ·have n:D j=true:=by
   rcases F.apart j i p o d c k with g | b
   ·exact g.in s k hd (by omega)
   ·exact absurd v ((Ei b).1 t a.symm)
  rw[n];simp[d]
 ·subst f;simp[u]
 ·have n:D j=false:=by
   rcases F.apart i j o p h k c with g | b
   ·cases l:D j with
    | false=>rfl
    | true=>have:=g D s l;rw[u]at this;cases this
   ·exact absurd v ((Ei b).2.2 t a.symm)
  rw[n];simp;omega
def Av{D:Nat->Bool}(q:Down ops D){i:Nat}{o:Oper}{r:Rec}(v:ops[i]?=some o)(n:recs[i]?=some r)(u:D i=false)
  (hd:∀e∈o.after.toList,Region.binds .any e=true->D e.on=true) {b:Nat} (t:b∈r.rd):look (appD 0 recs D s0).H b=look (appD 0 recs (λm=>decide (m<i)) s0).H b:=by
 rw[vq,vq];refine ov recs 0 _ _ b _ λj p l s=>?_;simp only[dc];rcases Ep j i with c | d | g
 ·have k:D j=true:=by
   rcases F.blk j i p r c l n with f | a
   ·exact f.in q v hd (by omega)
   ·exact absurd t (a.1 b s).1
  rw[k];simp[c]
 ·subst d;simp[u]
 ·have k:D j=false:=by
   rcases F.blk i j r p g n l with f | a
   ·cases h:D j with
    | false=>rfl
    | true=>have:=f D q h;rw[u]at this;cases this
   ·exact absurd s (a.2 b t)
  rw[k];simp;omega
def zp{D:Nat->Bool}(z:Down ops D){i:Nat}{o:Oper}{r:Rec}(B:ops[i]?=some o)(f:recs[i]?=some r)(A:D i=false):
  Eqv ((appD 0 recs D s0).put r) (appD 0 recs (λj=>if j=i then true else D j) s0):=by
 have n:=(F.loc i o r B f).1;refine⟨λt=>?_,λb=>?_,by rw[S0,kX,kX],by show(appD 0 recs D s0).lo=_;rw[vV,vV],by show(appD 0 recs D s0).ro=_;rw[iN,iN],by show(appD 0 recs D s0).rb=_;rw[vv,vv]⟩
 ·rw[NH,yu,yu];by_cases l:r.dst=some t
  ·rw[ae l];symm;refine Fg recs 0 i _ t _ r f (by simp) l λk h y c q=>?_;simp only[dc,show¬k=i by omega,aC];obtain⟨ok,g⟩:=wS F c;have s:=(F.loc k ok h g c).1;rcases F.apart i k o ok y B g with u | e
   ·cases d:D k with
    | false=>rfl
    | true=>have:=u D z d;rw[A]at this;cases this
   ·exact absurd (s t q) ((Ei e).2.1 t (n t l))
  ·rw[ab l];refine rZ recs 0 _ _ t _ λj h m w=>?_;simp only[dc];by_cases a:j=i
   ·subst a;rw[f]at m;cases m;exact absurd w l
   ·simp[a]
 ·rw[NG,vq,vq];by_cases p:b∈keys r.wr
  ·obtain⟨v,C⟩:=qz p;rw[C,Option.some_or];symm;rw[<-C];refine E9 recs 0 i _ b _ r f (by simp) p λk h y c x=>?_;simp only[dc,show¬k=i by omega,aC];rcases F.blk i k r h y f c with u | e
   ·cases d:D k with
    | false=>rfl
    | true=>have:=u D z d;rw[A]at this;cases this
   ·exact absurd x (e.1 b p).2
  ·rw[qm p,Ez];refine ov recs 0 _ _ b _ λj h m x=>?_;simp only[dc];by_cases a:j=i
   ·subst a;rw[f]at m;cases m;exact absurd x p
   ·simp[a]
def A7 {kk:Nat} (y:∀j,kk<=j->j<ops.length->live j) {ι0:Inj} {w0:Base} {Q:Exit->Act->World->Prop} (T:∀ι a w,Inv n ι0 w0 ι (recs.foldl St.put s0) a w->Q .normal a w):
  ∀(fuel:Nat) (c:Array Bool) (ι:Inj) (a:Act) (w:World),c.size=ops.length->(∀j,j<kk->Dn c j=true)->Down ops (Dn c)->Inv n ι0 w0 ι (appD 0 recs (Dn c) s0) a w->
   (∀i,i<ops.length->Dn c i=false->∀b,nb0+8*i<=b->b<nb0+8*i+8->ι b=none)->((List.range ops.length).filter λi=>!Dn c i).length<=fuel->
   wpAny P .any ops.toArray Q fuel c a w:=by
 have z:∀(c:Array Bool) (ι:Inj) (a:Act) (w:World),c.size=ops.length->Inv n ι0 w0 ι (appD 0 recs (Dn c) s0) a w->Region.ready .any ops.toArray c=[]->Q .normal a w:=by
  intro c ι a w hs u m;have B:∀j,j<ops.length->Dn c j=true:=by
   intro j
   induction j using Nat.strongRecOn with
   | _ j ih=>
    intro s;cases L:Dn c j with
    | true=>rfl
    | false=>
     have f:ops[j]?=some ops[j]:=by simp [s]
     have N:=AH hs f L λe M E=>ih e.on (F.down j _ e f M E) (by have:=F.down j _ e f M E;omega);rw [m] at N;cases N
  rw [zY recs 0 (Dn c) s0 λj s=>by simpa using B j (by rw [<-F.len];exact s)] at u;exact T ι a w u
 intro fuel
 induction fuel with
 | zero=>
  intro c ι a w hs v C u q hc;have m:Region.ready .any ops.toArray c=[]:=by
   rw [List.eq_nil_iff_forall_not_mem];intro i hi;obtain ⟨o,f,g,p,_⟩:=sg hs hi;have:i∈(List.range ops.length).filter λi=>!Dn c i:=by simp [g,p]
   have:=Ek this;omega
  exact ⟨m,z c ι a w hs u m⟩
 | succ fuel ih=>
  intro c ι a w hs v C u q hc;refine ⟨z c ι a w hs u,λi hi=>?_⟩;obtain ⟨o,f,g,p,hd⟩:=sg hs hi;obtain ⟨r,m⟩:=wQ F f;have D:=(F.loc i o r f m).2 (y i (by rcases aF i kk with h | h;(· have:=v i h;rw [p] at this;cases this);exact h) g);have d:Dn (c.setIfInBounds i true)=λj=>if j=i then true else Dn c j:=by
   funext j;exact xR (by omega) j
  have G:=D (appD 0 recs (Dn c) s0) (λt R=>An F C f p hd R) (λb E=>Av F C f m p hd E) (by rw [kX,kX]) (by rw [iN,iN]) ι0 w0 ι a w u (q i g p)
   (wpAny P .any ops.toArray Q fuel (c.setIfInBounds i true)) Q λK O w' U S=>by
    refine ih _ K O w' (by simpa using hs) (λj s=>by rw [d];simp only;split;(· rfl);exact v j s) (by rw [d];exact C.add f hd) (by rw [d];exact S.eqv (zp F C f m p)) (λj s l b H J=>?_) ?_
    ·rw [d] at l;by_cases k:j=i
     ·simp [k] at l
     ·simp only [k,aC] at l;rw [U b (by omega)];exact q j s l b H J
    ·have:((List.range ops.length).filter λj=>!Dn (c.setIfInBounds i true) j).length<((List.range ops.length).filter λj=>!Dn c j).length:=by
      rw [d];have A:((List.range ops.length).filter λj=>!(if j=i then true else Dn c j))=((List.range ops.length).filter λj=>!Dn c j).filter λj=>decide (j≠i):=by
       rw [Fq];congr 1;funext j;by_cases k:j=i<;>simp [k]
      rw [A];refine zi.2 ⟨i,by simp [g,p],by simp⟩
     omega
  unfold wpOp;have I:ops.toArray[i]?=some o:=by simpa using f
  rw [I];simp only;split
  ·rename_i x;rw [ae x] at G;exact .inl G
  ·rename_i x;rw [ab x] at G;exact G
def NM {lim kk:Nat} (C:lim<ops.length) (g:∀j,kk<=j->j<lim->live j/\Must ops j lim) (s:∀j,lim<j->j<ops.length->Must ops lim j) {ι0:Inj} {w0:Base} {Q:Exit->Act->World->Prop}
  (X:∀(fuel:Nat) (c:Array Bool) (ι:Inj) (a:Act) (w:World),c.size=ops.length->(∀j,j<lim->Dn c j=true)->Dn c lim=false->Down ops (Dn c)->Down ops (Dn (c.setIfInBounds lim true))->
   Inv n ι0 w0 ι (appD 0 recs (Dn c) s0) a w->((List.range ops.length).filter λi=>!Dn c i).length<=fuel+1->wpOp P ops.toArray Q lim (wpAny P .any ops.toArray Q fuel (c.setIfInBounds lim true)) a w):
  ∀(fuel:Nat) (c:Array Bool) (ι:Inj) (a:Act) (w:World),c.size=ops.length->(∀j,j<kk->Dn c j=true)->Down ops (Dn c)->Dn c lim=false->Inv n ι0 w0 ι (appD 0 recs (Dn c) s0) a w->
   (∀i,i<ops.length->Dn c i=false->∀b,nb0+8*i<=b->b<nb0+8*i+8->ι b=none)->((List.range ops.length).filter λi=>!Dn c i).length<=fuel->
   wpAny P .any ops.toArray Q fuel c a w:=by
 have M:∀(c:Array Bool),c.size=ops.length->Dn c lim=false->Region.ready .any ops.toArray c=[]->False:=by
  intro c hs hp x;have B:∀j,j<ops.length->Dn c j=true:=by
   intro j
   induction j using Nat.strongRecOn with
   | _ j ih=>
    intro v;cases O:Dn c j with
    | true=>rfl
    | false=>
     have f:ops[j]?=some ops[j]:=by simp [v]
     have T:=AH hs f O λe S G=>ih e.on (F.down j _ e f S G) (by have:=F.down j _ e f S G;omega);rw [x] at T;cases T
  rw [B lim C] at hp;cases hp
 intro fuel
 induction fuel with
 | zero=>
  intro c ι a w hs k p hp L u hc;have:lim∈(List.range ops.length).filter λi=>!Dn c i:=by simp [C,hp]
  have:=Ek this;omega
 | succ fuel ih=>
  intro c ι a w hs k p hp L u hc;refine ⟨λx=>(M c hs hp x).elim,λi hi=>?_⟩;obtain ⟨o,f,q,y,hd⟩:=sg hs hi;obtain ⟨r,x⟩:=wQ F f;have d:Dn (c.setIfInBounds i true)=λj=>if j=i then true else Dn c j:=by
   funext j;exact xR (by omega) j
  by_cases D:i=lim
  ·subst D;refine X fuel c ι a w hs (λj v=>?_) y p (by rw [d];exact p.add f hd) L hc;rcases aF j kk with h | h
   ·exact k j h
   ·exact (g j h v).2.in p f hd (by omega)
  have J:ops.toArray[i]?=some o:=by simpa using f
  unfold wpOp;rw [J];simp only;have hlt':i<lim:=by
   rcases aF i lim with h | h
   ·exact h
   ·have:=(s i (by omega) q).in p f hd (λe=>D e.symm);rw [hp] at this;cases this
  have R:kk<=i:=by
   rcases aF i kk with h | h
   ·have:=k i h;rw [y] at this;cases this
   ·exact h
  have E:=(F.loc i o r f x).2 (g i R hlt').1
  have H:=E (appD 0 recs (Dn c) s0) (λt V=>An F p f y hd V) (λb G=>Av F p f x y hd G) (by rw [kX,kX]) (by rw [iN,iN]) ι0 w0 ι a w L (u i q y)
   (wpAny P .any ops.toArray Q fuel (c.setIfInBounds i true)) Q λN U w' Y W=>by
    refine ih _ N U w' (by simpa using hs) (λj v=>by rw [d];simp only;split;(· rfl);exact k j v) (by rw [d];exact p.add f hd) (by rw [d];simp only [show ¬lim=i by omega,aC];exact hp) (by rw [d];exact W.eqv (zp F p f x y)) (λj v m b I K=>?_) ?_
    ·rw [d] at m;by_cases l:j=i
     ·simp [l] at m
     ·simp only [l,aC] at m;rw [Y b (by omega)];exact u j v m b I K
    ·have:((List.range ops.length).filter λj=>!Dn (c.setIfInBounds i true) j).length<((List.range ops.length).filter λj=>!Dn c j).length:=by
      rw [d];have A:((List.range ops.length).filter λj=>!(if j=i then true else Dn c j))=((List.range ops.length).filter λj=>!Dn c j).filter λj=>decide (j≠i):=by
       rw [Fq];congr 1;funext j;by_cases l:j=i<;>simp [l]
      rw [A];refine zi.2 ⟨i,by simp [q,y],by simp⟩
     omega
  split
  ·rename_i z;rw [ae z] at H;exact .inl H
  ·rename_i z;rw [ab z] at H;exact H
def Nn {lim:Nat} {ι0:Inj} {w0:Base} {Q:Exit->Act->World->Prop} {po:Oper} {pr:Rec} {v:V} {wr:List (Nat×Blk)} (g:ops[lim]?=some po) (E:recs[lim]?=some pr)
  (hlp:yM P n nb0 ops lim po v wr pr.rd (appD 0 recs (λm=>decide (m<lim)) s0))
  (y:∀j,j<ops.length->j≠lim->live j\/Must ops lim j)
  (hQ:∀D,Down ops D->(∀e∈po.after.toList,Region.binds .any e=true->D e.on=true)->D lim=false->∀ι x a w,VR ι v x->Inv n ι0 w0 ι ((appD 0 recs D s0).app none none wr s0.nb) a w->Q (.panic [{ v:=x,recovered:=false }]) a w):
  ∀(fuel:Nat) (c:Array Bool) (ι:Inj) (a:Act) (w:World),c.size=ops.length->Down ops (Dn c)->Dn c lim=false->Inv n ι0 w0 ι (appD 0 recs (Dn c) s0) a w->
   (∀i,i<ops.length->Dn c i=false->∀b,nb0+8*i<=b->b<nb0+8*i+8->ι b=none)->((List.range ops.length).filter λi=>!Dn c i).length<=fuel->
   wpAny P .any ops.toArray Q fuel c a w:=by
 have I:lim<ops.length:=by
  rcases aF lim ops.length with W | W
  ·exact W
  ·rw [gC W] at g;cases g
 have X:∀(c:Array Bool),c.size=ops.length->Dn c lim=false->Region.ready .any ops.toArray c=[]->False:=by
  intro c hs hp p;have H:∀j,j<ops.length->Dn c j=true:=by
   intro j
   induction j using Nat.strongRecOn with
   | _ j ih=>
    intro T;cases Z:Dn c j with
    | true=>rfl
    | false=>
     have f:ops[j]?=some ops[j]:=by simp [T]
     have L:=AH hs f Z λe he C=>ih e.on (F.down j _ e f he C) (by have:=F.down j _ e f he C;omega);rw [p] at L;cases L
  rw [H lim I] at hp;cases hp
 intro fuel
 induction fuel with
 | zero=>
  intro c ι a w hs s hp U k hc;have:lim∈(List.range ops.length).filter λi=>!Dn c i:=by simp [I,hp]
  have:=Ek this;omega
 | succ fuel ih=>
  intro c ι a w hs s hp U k hc;refine ⟨λp=>(X c hs hp p).elim,λi hi=>?_⟩;obtain ⟨o,f,h,u,hd⟩:=sg hs hi;obtain ⟨r,p⟩:=wQ F f;have O:ops.toArray[i]?=some o:=by simpa using f
  unfold wpOp;rw [O];simp only;by_cases A:i=lim
  case neg=>
   rcases y i h A with Y | L
   case inr=>
    have:=L.in s f hd (λe=>A e.symm);rw [hp] at this;cases this
   have J:=(F.loc i o r f p).2 Y;have d:Dn (c.setIfInBounds i true)=λj=>if j=i then true else Dn c j:=by
    funext j;exact xR (by omega) j
   have M:=J (appD 0 recs (Dn c) s0) (λt S=>An F s f u hd S) (λb C=>Av F s f p u hd C) (by rw [kX,kX]) (by rw [iN,iN]) ι0 w0 ι a w U (k i h u)
    (wpAny P .any ops.toArray Q fuel (c.setIfInBounds i true)) Q λz a' w' g1 K=>by
     refine ih _ z a' w' (by simpa using hs) (by rw [d];exact s.add f hd) (by rw [d];simp only [show ¬lim=i by omega,aC];exact hp) (by rw [d];exact K.eqv (zp F s f p u)) (λj T q b N R=>?_) ?_
     ·rw [d] at q;by_cases l:j=i
      ·simp [l] at q
      ·simp only [l,aC] at q;rw [g1 b (by omega)];exact k j T q b N R
     ·have:((List.range ops.length).filter λj=>!Dn (c.setIfInBounds i true) j).length<((List.range ops.length).filter λj=>!Dn c j).length:=by
       rw [d];have G:((List.range ops.length).filter λj=>!(if j=i then true else Dn c j))=((List.range ops.length).filter λj=>!Dn c j).filter λj=>decide (j≠i):=by
        rw [Fq];congr 1;funext j;by_cases l:j=i<;>simp [l]
       rw [G];refine zi.2 ⟨i,by simp [h,u],by simp⟩
      omega
   split
   ·rename_i B;rw [ae B] at M;exact .inl M
   ·rename_i B;rw [ab B] at M;exact M
  case pos=>
   subst A;rw [g] at f;cases f;rw [E] at p;cases p
   obtain ⟨q1,q2⟩:=hlp (appD 0 recs (Dn c) s0) (λt S=>An F s g u hd S) (λb C=>Av F s g E u hd C) (by rw [kX,kX]) (by rw [iN,iN]) ι0 w0 ι a w U (k i h u)
    (wpAny P .any ops.toArray Q fuel (c.setIfInBounds i true)) Q λz x w' g1 K=>hQ _ s hd u z x a w' g1 (by rw [kX] at K;exact K)
   rw [ae q1];exact .inl q2
end
def CP:∀{l:List Nat} {j:Nat},l.length<=j->getN l j=0
 | [],_,_=>rfl
 | _::_,0,h=>by simp at h
 | _::l,j+1,h=>CP (l:=l) (by simpa using h)
def rn:∀{l m:List Nat} {j:Nat},j<l.length->getN (l++m) j=getN l j
 | [],_,_,h=>by simp at h
 | _::_,_,0,_=>rfl
 | _::l,m,j+1,h=>rn (l:=l) (m:=m) (by simpa using h)
def rx:∀(l:List Nat) (x:Nat),getN (l++[x]) l.length=x
 | [],_=>rfl
 | _::l,x=>rx l x
def rD(b:List Nat):∀(l:List Edge) (s i:Nat),(AZ b l s).testBit i=true->s.testBit i=true\/∃e∈l,Region.binds .any e=true/\(e.on=i\/(getN b e.on).testBit i=true)
 | [],s,i,h=>.inl h
 | e::l,s,i,h=>by
  simp only[AZ]at h;split at h
  ·rename_i g;rcases rD b l _ i h with a | ⟨f,c,d⟩
   ·simp only[Nat.testBit_or,ie]at a;rcases a with(a | a) | a
    ·exact .inl a
    ·refine .inr ⟨e,by simp,g,.inl ?_⟩;rw[Nat.testBit_two_pow]at a;simpa using a
    ·exact .inr ⟨e,by simp,g,.inr a⟩
   ·exact .inr ⟨f,gW _ c,d⟩
  ·rcases rD b l _ i h with a | ⟨f,c,d⟩
   ·exact .inl a
   ·exact .inr ⟨f,gW _ c,d⟩
def o9(ops:List Oper):∀(r:List Oper) (a:List Nat),(∀j,r[j]?=ops[a.length+j]?)->(∀j i,(getN a j).testBit i=true->Must ops i j)->
  ∀j i,(getN (kD r a) j).testBit i=true->Must ops i j
 | [],a,_,h=>h
 | o::r,a,m,h=>by
  simp only[kD];refine o9 ops r _ (λj=>by have:=m (j+1);simp only[EU]at this;rw[this];simp;congr 1;omega) λj i b=>?_;rcases Ep j a.length with g | d | p
  ·rw[rn g]at b;exact h j i b
  ·subst d;rw[rx]at b;have s:ops[a.length]?=some o:=by have:=m 0;simpa using this.symm
   rcases rD a _ _ _ b with c | ⟨e,q,f,c⟩
   ·simp at c
   ·intro D n k;have l:=n a.length o e s k q f;rcases c with rfl | c
    ·exact l
    ·exact h e.on i c D n l
  ·rw[CP (by simp;omega)]at b;simp at b
def jp:∀(l:List Oper) (i:Nat),pQ i l=true->∀(j:Nat) (o:Oper) (e:Edge),l[j]?=some o->e∈o.after.toList->Region.binds .any e=true->e.on<i+j
 | [],_,_,_,_,_,h,_,_=>by simp at h
 | o::l,i,h,j,d,e,a,c,b=>by
  simp only[pQ,aB,cq]at h;cases j with
  | zero=>
   simp only[lO,ar]at a;subst a;have:=h.1 e c;simp only[b,bV,od]at this;exact aG this
  | succ j=>have:=jp l (i+1) h.2 j d e (by simpa using a) c b;omega
def rk{ops:Array Oper}{o:Oper}{a:Nat}:∀(l:List Oper) (i:Nat),sG ops o a i l=true->∀(j:Nat) (p:Oper),l[j]?=some p->a.testBit (i+j)=true\/p.apart ops o=true
 | [],_,_,_,_,h=>by simp at h
 | q::l,i,h,j,p,b=>by
  simp only[sG,aB,ie]at h;cases j with
  | zero=>simp only[lO,ar]at b;subst b;exact h.1
  | succ j=>have:=rk l (i+1) h.2 j p (by simpa using b);rwa[show i+1+j=i+(j+1)by omega]at this
def me{ops:Array Oper}{masks:List Nat}:∀(l a:List Oper),sK ops masks a.length a l=true->∀(i j:Nat) (x y:Oper),i<a.length+j->(a++l)[i]?=some x->l[j]?=some y->
  (getN masks (a.length+j)).testBit i=true\/x.apart ops y=true
 | [],_,_,_,_,_,_,_,_,h=>by simp at h
 | o::l,a,h,i,j,x,y,hi,hx,hy=>by
  simp only[sK,aB]at h;cases j with
  | zero=>
   simp only[lO,ar]at hy;subst hy;have:=rk a 0 h.1 i x (by rw[mS (by simpa using hi)]at hx;exact hx);simpa using this
  | succ j=>
   have b:=h.2;rw[show a.length+1=(a++[o]).length by simp]at b;have:=me l (a++[o]) b i j x y (by simp;omega) (by simpa using hx) (by simpa using hy);rwa[show(a++[o]).length+j=a.length+(j+1)by simp;omega]at this
def pG{masks:List Nat}:∀{tr:List TE},om masks tr=true->∀x∈tr,∀y∈tr,x.i<y.i->vk masks x y=true\/vk masks y x=true
 | [],_,x,hx,_,_,_=>by cases hx
 | z::l,h,x,hx,y,hy,c=>by
  simp only[om,aB,cq]at h;rcases cT.1 hx with b | b
  ·subst b;rcases cT.1 hy with a | a
   ·subst a;omega
   ·exact .inl (h.1 y a)
  ·rcases cT.1 hy with a | a
   ·subst a;exact .inr (h.1 x b)
   ·exact pG h.2 x b y a c
def wM{x y:TE}(h:QZ x y=false):(∀b∈x.ws,b∉y.rd/\b∉y.ws)/\∀b∈x.rd,b∉y.ws:=by
 simp only[QZ,nL,rc,ie,not_or,List.contains_iff_mem]at h;exact⟨λb a=>h.1 b a,λb a=>h.2 b a⟩
def Bz{masks:List Nat}{x y:TE}(h:vk masks x y=true\/vk masks y x=true)(d:x.i<y.i):
  (getN masks y.i).testBit x.i=true\/((∀b∈x.ws,b∉y.rd/\b∉y.ws)/\∀b∈x.rd,b∉y.ws):=by
 have j:Nat.blt x.i y.i=true:=dF d;have f:Nat.blt y.i x.i=false:=by
  cases k:Nat.blt y.i x.i with
  | false=>rfl
  | true=>have:y.i<x.i:=aG k;omega
 rcases h with h | h
 ·simp only[vk,j,aj,ie,kC]at h;exact h.imp id wM
 ·simp only[vk,f,af,ie,kC]at h;refine h.imp id λh=>?_;obtain⟨a,b⟩:=wM h;exact⟨λc hc=>⟨λg=>b c g hc,λe=>(a c e).2 hc⟩,λc hc e=>(a c e).1 hc⟩
def ug:∀(ops:List Oper) {T:List (Nat×Option V)} (t:Nat) (v:V),look (HU ops T) t=some (some v)->(∀o∈ops,o.dst≠some t)/\look T t=some (some v)
 | [],T,t,v,h=>⟨by simp,h⟩
 | o::l,T,t,v,h=>by
  simp only[HU]at h;split at h
  ·rename_i d hd;rw[aR]at h;split at h
   ·cases h
   ·rename_i a;obtain⟨c,b⟩:=ug l t v h;refine⟨λx hx=>?_,b⟩;rcases cT.1 hx with rfl | hx
    ·rw[hd];intro e;cases e;exact a rfl
    ·exact c x hx
  ·rename_i hd;obtain⟨c,b⟩:=ug l t v h;refine⟨λx hx=>?_,b⟩;rcases cT.1 hx with rfl | hx
   ·rw[hd];intro e;cases e
   ·exact c x hx
def Hg{α:Type}{E:List Ent}(hE:∀x∈E,fK P x){n:Nat}{ops:List Oper}{s:St}{k:Ex->St->Option α}{z:α}(h:Dc P E n ops s k=some z)(id:Nat):
  SemC P n (.region id ops.toArray true) s λex s'=>k ex s'=some z:=by
 intro ι0 w0 ι a w hI;unfold Dc at h;split at h
 case h_2=>cases h
 rename_i hok;simp only[aB,EY]at hok;obtain⟨⟨hb1,hb2,_⟩,R⟩:=hok;have g:=o9 ops ops [] (by simp) (λj i u=>by simp[getN]at u);have hI1:Inv n ι0 w0 ι { s with nb:=s.nb+8*ops.length } a { w with drawn:=w.drawn+1 }:=by
  have d:=hI.drawn (w.drawn+1);exact⟨d.size,d.defers,d.tmps,⟨d.mem.inj,λb r u=>by have:=d.mem.low b r u;simp only;omega,d.mem.dom,d.mem.blk⟩,d.ext,d.new,d.fr,d.low,d.fz,d.gl⟩
 have G:∀i,Dn (Array.replicate ops.toArray.size false) i=false:=by
  intro i;unfold Dn;simp only[qg,Tv];split<;>rfl
 have hno:∀(l:List Rec) (i:Nat) (D:Nat->Bool) (s:St),(∀j,D j=false)->appD i l D s=s:=by
  intro l
  induction l with
  | nil=>intros;rfl
  | cons r l ih=>intro i D s hD;simp only[appD,hD i,bs,aC];exact ih _ D s hD
 have C:∀(trf:List TE) (x y:Rec) (i j:Nat),om (kD ops []) (trf.filter λx=>!(x.rd.isEmpty&&x.ws.isEmpty))=true->i<j->((⟨0+i,x.rd,keys x.wr⟩:TE)∈trf\/(x.rd=[]/\x.wr=[]))->((⟨0+j,y.rd,keys y.wr⟩:TE)∈trf\/(y.rd=[]/\y.wr=[]))->
   Must ops i j\/((∀b∈keys x.wr,b∉y.rd/\b∉keys y.wr)/\∀b∈x.rd,b∉keys y.wr):=by
  intro trf x y i j K B hx hy;rcases hx with hxm | ⟨hx1,hx2⟩
  ·rcases hy with hym | ⟨hy1,hy2⟩
   ·simp only[dc]at hxm hym;by_cases V:(x.rd=[]/\x.wr=[])
    ·exact .inr (by simp[V.1,V.2,keys])
    ·by_cases U:(y.rd=[]/\y.wr=[])
     ·exact .inr (by simp[U.1,U.2,keys])
     ·have m1:(⟨i,x.rd,keys x.wr⟩:TE)∈trf.filter λx=>!(x.rd.isEmpty&&x.ws.isEmpty):=by
       refine mW.2 ⟨hxm,?_⟩;simp only[keys,kC,C5,AG];rcases fS9 (x.rd=[])with h | h
       ·exact .inr (by simpa usingλhw=>V ⟨h,hw⟩)
       ·exact .inl h
      have m2:(⟨j,y.rd,keys y.wr⟩:TE)∈trf.filter λx=>!(x.rd.isEmpty&&x.ws.isEmpty):=by
       refine mW.2 ⟨hym,?_⟩;simp only[keys,kC,C5,AG];rcases fS9 (y.rd=[])with h | h
       ·exact .inr (by simpa usingλhw=>U ⟨h,hw⟩)
       ·exact .inl h
      have:=Bz (pG K _ m1 _ m2 B) B;exact this.imp (g j i) λh=>h
   ·exact .inr (by simp[hy1,hy2,keys])
  ·exact .inr (by simp[hx1,hx2,keys])
 rcases yZ hE ops 0 _ [] (by simp) h with⟨recs,O,trf,g1,S,Q,_,W,g6⟩ | ⟨p,po,recs,O,sp,trf,v,wr,rp,g1,g0,gr,gd,gw,rfl,S,Q,_,g7,W,g6⟩
 ·split at S
  case h_2=>cases S
  rename_i K;have F:DrawFacts P n s.nb ops recs { s with nb:=s.nb+8*ops.length } (λ_=>True):=by
   refine⟨g1,rfl,λj o r N hr=>?_,λj o e N he u=>?_,λi j x y B hx hy=>?_,λi j x y B hx hy=>?_⟩
   ·obtain⟨p1,p2⟩:=g6 j o r N hr;simp only[dc]at p2;have e:=pD recs 0 j { s with nb:=s.nb+8*ops.length };simp only[dc]at e;exact⟨λt Z=>p1▸Z,λ_=>p2.eqv e⟩
   ·have:=jp ops 0 hb1 j o e N he u;omega
   ·have:=me (masks:=kD ops []) ops [] hb2 i j x y (by simpa using B) (by simpa using hx) hy;simp only[iy,dc]at this;exact this.imp (g j i) λh=>h
   ·exact C trf x y i j K B (W i x hx) (W j y hy)
  refine wp_region_any R (A7 (kk:=0) F (λ_ _ _=>trivial) (λL a' w' f=>⟨.normal,O,L,rfl,f.eqv Q.symm,S⟩) _ _ ι a _ (by simp) (λj Y=>by omega) (λj o e _ M=>by rw[G j]at M;cases M) (by rw[hno recs 0 _ _ G];exact hI1) (λi _ _ b u _=>?_) ?_)
  ·exact hI.fresh b (by omega)
  ·have:=yV (λi=>!Dn (Array.replicate ops.toArray.size false) i) (List.range ops.length);simpa using this
 ·split at S
  case h_2=>cases S
  rename_i hpk;simp only[aB,TJ]at hpk;obtain⟨hw,K⟩:=hpk;simp only[dc]at S g7 hw;have B:p<ops.length:=by
   rcases aF p ops.length with h' | h'
   ·exact h'
   ·rw[gC h']at g0;cases g0
  have A:∀i r,recs[i]?=some r->i≠p->(i<p/\Must ops i p)\/r.wr=[]:=by
   intro i r hr I;rcases W i r hr I with hx | hx
   ·have:=(cq.1 hw) _ hx;simp only[dc,ie,aB]at this;rcases this with h | h
    ·right;simpa[keys]using h
    ·exact .inl ⟨aG h.1,g p i h.2⟩
   ·exact .inr hx.2
  have g5':∀(j:Nat) (r:Rec),recs[j]?=some r->j≠p->(⟨0+j,r.rd,keys r.wr⟩:TE)∈trf\/(r.rd=[]/\r.wr=[]):=W;have F:DrawFacts P n s.nb ops recs { s with nb:=s.nb+8*ops.length } (λj=>j<p\/(p<j/\(getN (kD ops []) (0+j)).testBit (0+p)=false)):=by
   refine⟨g1,rfl,λj o r N hr=>?_,λj o e N he u=>?_,λi j x y hij hx hy=>?_,λi j x y hij hx hy=>?_⟩
   ·obtain⟨p1,p2⟩:=g6 j o r N hr;have e:=pD recs 0 j { s with nb:=s.nb+8*ops.length };simp only[dc]at e p2 ⊢;exact⟨λt Z=>p1▸Z,λhc=>(p2 hc).eqv e⟩
   ·have:=jp ops 0 hb1 j o e N he u;omega
   ·have:=me (masks:=kD ops []) ops [] hb2 i j x y (by simpa using hij) (by simpa using hx) hy;simp only[iy,dc]at this;exact this.imp (g j i) λh=>h
   ·by_cases I:i=p
    ·
     subst I;rw[gr]at hx;cases hx;rcases A j y hy (by omega)with⟨h,_⟩ | h
     ·omega
     ·exact .inr (by simp[gw,h,keys])
    ·by_cases J:j=p
     ·subst J;rw[gr]at hy;cases hy;rcases A i x hx I with⟨_,h⟩ | h
      ·exact .inl h
      ·exact .inr (by simp[gw,h,keys])
     ·exact C trf x y i j K hij (W i x hx I) (W j y hy J)
  have c:Eqv ((recs.take p).foldl St.put { s with nb:=s.nb+8*ops.length }) (appD 0 recs (λm=>decide (m<p)) { s with nb:=s.nb+8*ops.length }):=by
   have e:=pD recs 0 p { s with nb:=s.nb+8*ops.length };simpa using e
  have X:∀j,j<ops.length->j≠p->(j<p\/(p<j/\(getN (kD ops []) (0+j)).testBit (0+p)=false))\/Must ops p j:=by
   intro j _ hne;cases u:(getN (kD ops []) (0+j)).testBit (0+p)with
   | false=>exact .inl ((Nat.lt_or_gt_of_ne hne).imp (λh=>h) λh=>⟨h,rfl⟩)
   | true=>simp only[dc]at u;exact .inr (g j p u)
  refine wp_region_any R (Nn F g0 gr (g7.eqv c) X (λD hD hd hn L x a' w' hv f=>⟨.pan v,_,L,⟨x,rfl,hv⟩,?inv,S⟩) _ _ ι a _ (by simp) (λj o e _ M=>by rw[G j]at M;cases M) (G p) (by rw[hno _ 0 _ _ G];exact hI1) (λi _ _ b u _=>?fresh) ?len)
  case inv=>
   have hH:∀b,look O.H b=look (appD 0 recs D { s with nb:=s.nb+8*ops.length }).H b:=by
    intro b;rw[Q.H,c.H,vq,vq];refine ov _ 0 _ _ b _ λj r Y u=>?_;simp only[dc];by_cases J:j=p
    ·subst J;rw[gr]at Y;cases Y;rw[gw]at u;simp[keys]at u
    ·rcases A j r Y J with⟨d,hm⟩ | hm
     ·rw[hm.in hD g0 hd (by omega)];simp[d]
     ·rw[hm]at u;simp[keys]at u
   have hT:∀t v,look (HU ops s.T) t=some (some v)->look (appD 0 recs D { s with nb:=s.nb+8*ops.length }).T t=some (some v):=by
    intro t v Z;obtain⟨d,h2⟩:=ug ops t v Z;rw[yu,xW _ 0 D t _ λj r Y hr=>?_]
    ·exact h2
    ·exfalso;obtain⟨o,N⟩:=wS F Y;exact d o (fE N) ((F.loc j o r N Y).1 t hr)
   refine⟨f.size,f.defers,λt v Z=>f.tmps t v (hT t v Z),⟨f.mem.inj,λb r u=>?_,f.mem.dom,λb blk hl hdd=>f.mem.blk b blk ?_ hdd⟩,?_,f.new,?_,λb r u=>?_,?_,?_⟩
   ·have:=f.mem.low b r u;have e:=Q.nb.trans c.nb;rw[kX]at e;show b<O.nb;rw[e];exact this
   ·show look (wr++(appD 0 recs D { s with nb:=s.nb+8*ops.length }).H) b=_;rw[o8,<-hH b,<-o8];exact hl
   ·have e:=Q.rb.trans c.rb;rw[vv]at e;have d:=f.ext;show ∀b q,ι0 b=some q->L b=some q\/O.rb<=b;rw[e];simp only[St.app,vv]at d;exact d
   ·have e:=Q.ro.trans c.ro;rw[iN]at e;have d:=f.fr;show Fr (roI ι0 O.ro) w0.w w';rw[e];simp only[St.app,iN]at d;exact d
   ·have e:=Q.lo.trans c.lo;rw[vV]at e;have d:=f.low b r u;show b<O.lo;rw[e];simp only[St.app,vV]at d;exact d
   ·have e:=Q.ro.trans c.ro;rw[iN]at e;have d:=f.fz;show ∀b q,L b=some (some q)->q.fz=true->b<O.ro;rw[e];simp only[St.app,iN]at d;exact d
   ·have e:=Q.ro.trans c.ro;rw[iN]at e;have d:=f.gl;show GL (roI ι0 O.ro) w0.w;rw[e];simp only[St.app,iN]at d;exact d
  case fresh=>exact hI.fresh b (by omega)
  case len=>
   have:=yV (λi=>!Dn (Array.replicate ops.toArray.size false) i) (List.range ops.length);simpa using this
end Go.Abs
