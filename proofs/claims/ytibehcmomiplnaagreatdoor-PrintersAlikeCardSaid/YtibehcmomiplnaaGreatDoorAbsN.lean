
import Derived.Test.YtibehcmomiplnaaGreatDoorAbsM
set_option linter.unusedSimpArgs false
set_option linter.unusedVariables false
set_option linter.defProp false
namespace Go.Abs
variable {P:Program}
structure Rec where
 dst:Option Nat
 val:Option V
 wr:List (Nat×Blk)
 rd:List Nat
def St.put(s:St)(r:Rec):St:=s.app r.dst r.val r.wr s.nb
def keys(wr:List (Nat×Blk)):List Nat:=wr.map (·.1)
def qQ{α:Type}(l m:List (Nat×α))(n:Nat):look (l++m) n=(look l n).or (look m n):=by
 induction l with
 | nil=>rfl
 | cons x l ih=>
  obtain⟨k,v⟩:=x;rw[eX,aV,aV];split
  ·rfl
  ·exact ih
def rq{α:Type}{l:List (Nat×α)}{n:Nat}(h:n∉l.map (·.1)):look l n=none:=by
 induction l with
 | nil=>rfl
 | cons x l ih=>
  obtain⟨k,v⟩:=x;simp only[gJ,cN,not_or]at h;rw[aV,ae (λe=>h.1 e.symm)];exact ih h.2
def sO{α:Type}{l:List (Nat×α)}{n:Nat}(h:n∈l.map (·.1)):∃v,look l n=some v:=by
 induction l with
 | nil=>simp at h
 | cons x l ih=>
  obtain⟨k,v⟩:=x;rw[aV];split
  ·exact⟨v,rfl⟩
  ·rename_i a;simp only[gJ,cN]at h;exact ih (h.resolve_left λe=>a e.symm)
def P3(s:St)(r:Rec)(t:Nat):look (s.put r).T t=if r.dst=some t then some r.val else look s.T t:=by
 unfold St.put St.app;cases a:r.dst with
 | none=>simp
 | some d=>
  simp only[aV];by_cases h:d=t
  ·subst h;simp
  ·simp[h]
def QI(s:St)(r:Rec)(b:Nat):look (s.put r).H b=(look r.wr b).or (look s.H b):=qQ _ _ _
def Xp(s:St)(r:Rec):(s.put r).nb=s.nb:=rfl
structure Eqv(s s':St):Prop where
 T:∀t,look s.T t=look s'.T t
 H:∀b,look s.H b=look s'.H b
 nb:s.nb=s'.nb
 lo:s.lo=s'.lo
 ro:s.ro=s'.ro
 rb:s.rb=s'.rb
def Eqv.refl(s:St):Eqv s s:=⟨λ_=>rfl,λ_=>rfl,rfl,rfl,rfl,rfl⟩
def Eqv.symm{s s':St}(h:Eqv s s'):Eqv s' s:=⟨λt=>(h.T t).symm,λb=>(h.H b).symm,h.nb.symm,h.lo.symm,h.ro.symm,h.rb.symm⟩
def Eqv.trans{a b c:St}(h:Eqv a b)(k:Eqv b c):Eqv a c:=⟨λt=>(h.T t).trans (k.T t),λt=>(h.H t).trans (k.H t),h.nb.trans k.nb,h.lo.trans k.lo,h.ro.trans k.ro,h.rb.trans k.rb⟩
def Eqv.put{s s':St}(h:Eqv s s')(r:Rec):Eqv (s.put r) (s'.put r):=
 ⟨λt=>by rw[P3,P3,h.T],λb=>by rw[QI,QI,h.H],h.nb,h.lo,h.ro,h.rb⟩
def Eqv.puts:∀(l:List Rec) {s s':St},Eqv s s'->Eqv (l.foldl St.put s) (l.foldl St.put s')
 | [],_,_,h=>h
 | r::l,_,_,h=>Eqv.puts l (h.put r)
def Inv.eqv{n:Nat}{ι0 ι:Inj}{w0:Base}{s s':St}{a:Act}{w:World}(h:Inv n ι0 w0 ι s a w)(e:Eqv s s'):Inv n ι0 w0 ι s' a w:=
 ⟨h.size,h.defers,λt v G=>h.tmps t v (by rw[e.T];exact G),⟨h.mem.inj,λb r C=>by rw[<-e.nb];exact h.mem.low b r C,h.mem.dom,λb blk E F=>h.mem.blk b blk (by rw[e.H];exact E) F⟩,by rw[<-e.rb];exact h.ext,h.new,by rw[<-e.ro];exact h.fr,λb r C=>by rw[<-e.lo];exact h.low b r C,by rw[<-e.ro];exact h.fz,by rw[<-e.ro];exact h.gl⟩
def appD:Nat->List Rec->(Nat->Bool)->St->St
 | _,[],_,s=>s
 | i,r::l,D,s=>appD (i+1) l D (if D i=true then s.put r else s)
def yS:Nat->List Rec->(Nat->Bool)->Nat->Option (Option V)->Option (Option V)
 | _,[],_,_,x=>x
 | i,r::l,D,t,x=>yS (i+1) l D t (if D i=true/\r.dst=some t then some r.val else x)
def xh:Nat->List Rec->(Nat->Bool)->Nat->Option Blk->Option Blk
 | _,[],_,_,x=>x
 | i,r::l,D,b,x=>xh (i+1) l D b (if D i=true then(look r.wr b).or x else x)
def An:∀(l:List Rec) (i:Nat) (D:Nat->Bool) (s:St) (t:Nat),look (appD i l D s).T t=yS i l D t (look s.T t)
 | [],_,_,_,_=>rfl
 | r::l,i,D,s,t=>by
  simp only[appD,yS,An l];congr 1;cases D i
  ·simp
  ·simp only[kO,aQ];rw[P3]
def zb:∀(l:List Rec) (i:Nat) (D:Nat->Bool) (s:St) (b:Nat),look (appD i l D s).H b=xh i l D b (look s.H b)
 | [],_,_,_,_=>rfl
 | r::l,i,D,s,b=>by
  simp only[appD,xh,zb l];congr 1;cases D i
  ·simp
  ·simp only[aQ];rw[QI]
def mz:∀(l:List Rec) (i:Nat) (D:Nat->Bool) (s:St),(appD i l D s).nb=s.nb
 | [],_,_,_=>rfl
 | r::l,i,D,s=>by
  simp only[appD,mz l];split<;>rfl
def jF:∀(l:List Rec) (i:Nat) (D:Nat->Bool) (s:St),(appD i l D s).ro=s.ro
 | [],_,_,_=>rfl
 | r::l,i,D,s=>by
  simp only[appD,jF l];split<;>rfl
def yN:∀(l:List Rec) (i:Nat) (D:Nat->Bool) (s:St),(appD i l D s).lo=s.lo
 | [],_,_,_=>rfl
 | r::l,i,D,s=>by
  simp only[appD,yN l];split<;>rfl
def yJ:∀(l:List Rec) (i:Nat) (D:Nat->Bool) (s:St),(appD i l D s).rb=s.rb
 | [],_,_,_=>rfl
 | r::l,i,D,s=>by
  simp only[appD,yJ l];split<;>rfl
def uc:∀(l:List Rec) (i:Nat) (D a:Nat->Bool) (t:Nat) (x:Option (Option V)),(∀j r,l[j]?=some r->r.dst=some t->D (i+j)=a (i+j))->yS i l D t x=yS i l a t x
 | [],_,_,_,_,_,_=>rfl
 | r::l,i,D,a,t,x,h=>by
  simp only[yS];have b:=h 0 r (by simp);simp only[dP]at b;rw[uc l (i+1) D a t _ λj d f e=>by have:=h (j+1) d (by simpa using f) e;rwa[show i+(j+1)=i+1+j by omega]at this];congr 1;by_cases c:r.dst=some t
  ·rw[b c]
  ·simp[c]
def zS(l:List Rec)(i:Nat)(D:Nat->Bool)(t:Nat)(x:Option (Option V))(h:∀j r,l[j]?=some r->r.dst=some t->D (i+j)=false):yS i l D t x=x:=by
 induction l generalizing i x with
 | nil=>rfl
 | cons r l ih=>
  simp only[yS];have b:=h 0 r (by simp);simp only[dP]at b;have:¬(D i=true/\r.dst=some t):=λ⟨a,f⟩=>by rw[b f]at a;cases a
  rw[ae this];exact ih (i+1) x λj c e d=>by have:=h (j+1) c (by simpa using e) d;rwa[show i+(j+1)=i+1+j by omega]at this
def Jc:∀(l:List Rec) (i j:Nat) (D:Nat->Bool) (t:Nat) (x:Option (Option V)) (r:Rec),l[j]?=some r->D (i+j)=true->r.dst=some t->
  (∀k b,j<k->l[k]?=some b->b.dst=some t->D (i+k)=false)->yS i l D t x=some r.val
 | [],_,_,_,_,_,_,h,_,_,_=>by simp at h
 | r0::l,i,0,D,t,x,r,h,c,e,a=>by
  simp only[lw,ar]at h;subst h;simp only[dP]at c;simp only[yS];rw[af ⟨c,e⟩];exact zS l (i+1) D t _ λk b f d=>by have:=a (k+1) b (by omega) (by simpa using f) d;rwa[show i+(k+1)=i+1+k by omega]at this
 | r0::l,i,j+1,D,t,x,r,h,c,e,a=>by
  simp only[yS]
  exact Jc l (i+1) j D t _ r (by simpa using h) (by rwa[show i+1+j=i+(j+1)by omega]) e λk b f g d=>by
   have:=a (k+1) b (by omega) (by simpa using g) d;rwa[show i+(k+1)=i+1+k by omega]at this
def qC:∀(l:List Rec) (i:Nat) (D a:Nat->Bool) (b:Nat) (x:Option Blk),(∀j r,l[j]?=some r->b∈keys r.wr->D (i+j)=a (i+j))->xh i l D b x=xh i l a b x
 | [],_,_,_,_,_,_=>rfl
 | r::l,i,D,a,b,x,h=>by
  simp only[xh];have c:=h 0 r (by simp);simp only[dP]at c;rw[qC l (i+1) D a b _ λj e g f=>by have:=h (j+1) e (by simpa using g) f;rwa[show i+(j+1)=i+1+j by omega]at this];congr 1;by_cases d:b∈keys r.wr
  ·rw[c d]
  ·simp[rq d]
def KN(l:List Rec)(i:Nat)(D:Nat->Bool)(b:Nat)(x:Option Blk)(h:∀j r,l[j]?=some r->b∈keys r.wr->D (i+j)=false):xh i l D b x=x:=by
 induction l generalizing i x with
 | nil=>rfl
 | cons r l ih=>
  simp only[xh];have a:=h 0 r (by simp);simp only[dP]at a;have:(if D i=true then(look r.wr b).or x else x)=x:=by
   by_cases c:b∈keys r.wr
   ·rw[a c];simp
   ·rw[rq c];simp
  rw[this];exact ih (i+1) x λj e f d=>by have:=h (j+1) e (by simpa using f) d;rwa[show i+(j+1)=i+1+j by omega]at this
def I3:∀(l:List Rec) (i j:Nat) (D:Nat->Bool) (b:Nat) (x:Option Blk) (r:Rec),l[j]?=some r->D (i+j)=true->b∈keys r.wr->
  (∀k c,j<k->l[k]?=some c->b∈keys c.wr->D (i+k)=false)->xh i l D b x=look r.wr b
 | [],_,_,_,_,_,_,h,_,_,_=>by simp at h
 | r0::l,i,0,D,b,x,r,h,d,f,a=>by
  simp only[lw,ar]at h;subst h;simp only[dP]at d;simp only[xh];obtain⟨v,n⟩:=sO f;rw[af d,n];exact KN l (i+1) D b _ λk c g e=>by have:=a (k+1) c (by omega) (by simpa using g) e;rwa[show i+(k+1)=i+1+k by omega]at this
 | r0::l,i,j+1,D,b,x,r,h,d,f,a=>by
  simp only[xh]
  exact I3 l (i+1) j D b _ r (by simpa using h) (by rwa[show i+1+j=i+(j+1)by omega]) f λk c g m e=>by
   have:=a (k+1) c (by omega) (by simpa using m) e;rwa[show i+(k+1)=i+1+k by omega]at this
def rB:∀(l:List Rec) (i j:Nat) (s:St),Eqv ((l.take j).foldl St.put s) (appD i l (λm=>decide (m<i+j)) s)
 | [],i,j,s=>by simp[appD];exact Eqv.refl s
 | r::l,i,0,s=>by
  have:∀(l:List Rec) (i a:Nat) (s:St),i<=a->appD a l (λm=>decide (m<i)) s=s:=by
   intro l
   induction l with
   | nil=>intros;rfl
   | cons r l ih=>intro i a s h;simp only[appD,show¬a<i by omega,oJ,bU,aG];exact ih i (a+1) s (by omega)
  simp only[nr,HB,dP];rw[this (r::l) i i s (bg _)];exact Eqv.refl s
 | r::l,i,j+1,s=>by
  simp only[nq,vW,appD,show i<i+(j+1)by omega,pg,aQ];have:=rB l (i+1) j (s.put r);rwa[show(λm=>decide (m<i+1+j))=λm=>decide (m<i+(j+1))by funext m;simp only[oN];omega]at this
def BK:∀(l:List Rec) (i:Nat) (D:Nat->Bool) (s:St),(∀j,j<l.length->D (i+j)=true)->appD i l D s=l.foldl St.put s
 | [],_,_,_,_=>rfl
 | r::l,i,D,s,h=>by
  have a:=h 0 (by simp);simp only[dP]at a;simp only[appD,a,aQ,vW];exact BK l (i+1) D _ λj b=>by have:=h (j+1) (by simpa using b);rwa[show i+(j+1)=i+1+j by omega]at this
def vt(P:Program)(n nb0:Nat)(ops:List Oper)(i:Nat)(o:Oper)(r:Rec)(base:St):Prop:=
 ∀s':St,(∀t∈o.looksAt ops.toArray,look s'.T t=look base.T t)->(∀b∈r.rd,look s'.H b=look base.H b)->s'.nb=base.nb->s'.ro=base.ro->
  ∀(ι0:Inj) (w0:Base) (ι:Inj) (a:Act) (w:World),Inv n ι0 w0 ι s' a w->(∀b,nb0+8*i<=b->b<nb0+8*i+8->ι b=none)->∀(K:Act->World->Prop) (Q:Exit->Act->World->Prop),
   (∀c d w',(∀b,(b<nb0+8*i\/nb0+8*i+8<=b)->c b=ι b)->Inv n ι0 w0 c (s'.put r) d w'->K d w')->
   if Region.wanted o (yielded ops.toArray a.tmps)then o.wp P a w K Q else K (a.put o.dst undef) w
def AP(P:Program)(n nb0:Nat)(ops:List Oper)(i:Nat)(o:Oper)(v:V)(wr:List (Nat×Blk))(rd:List Nat)(base:St):Prop:=
 ∀s':St,(∀t∈o.looksAt ops.toArray,look s'.T t=look base.T t)->(∀b∈rd,look s'.H b=look base.H b)->s'.nb=base.nb->s'.ro=base.ro->
  ∀(ι0:Inj) (w0:Base) (ι:Inj) (a:Act) (w:World),Inv n ι0 w0 ι s' a w->(∀b,nb0+8*i<=b->b<nb0+8*i+8->ι b=none)->∀(K:Act->World->Prop) (Q:Exit->Act->World->Prop),
   (∀c x w',VR c v x->Inv n ι0 w0 c (s'.app none none wr s'.nb) a w'->Q (.panic [{ v:=x,recovered:=false }]) a w')->
   Region.wanted o (yielded ops.toArray a.tmps)=true/\o.wp P a w K Q
def AP.eqv{n nb0:Nat}{ops:List Oper}{i:Nat}{o:Oper}{v:V}{wr:List (Nat×Blk)}{rd:List Nat}{base C:St}(h:AP P n nb0 ops i o v wr rd base)(e:Eqv base C):AP P n nb0 ops i o v wr rd C:=
 λs' F O G Q=>h s' (λt J=>by rw[F t J,e.T]) (λb E=>by rw[O b E,e.H]) (by rw[G,e.nb]) (by rw[Q,e.ro])
def vt.eqv{n nb0:Nat}{ops:List Oper}{i:Nat}{o:Oper}{r:Rec}{base C:St}(h:vt P n nb0 ops i o r base)(e:Eqv base C):vt P n nb0 ops i o r C:=
 λs' F O G Q=>h s' (λt J=>by rw[F t J,e.T]) (λb E=>by rw[O b E,e.H]) (by rw[G,e.nb]) (by rw[Q,e.ro])
def Ae{α:Type}{ops:List Oper}{o:Oper}{s:St}{k:Bool->St->Option α}{z:α}(h:zu ops o s k=some z):
  ∃c r,k c r=some z/\Eqv r s/\∀s':St,(∀t∈o.looksAt ops.toArray,look s'.T t=look s.T t)->∀(n:Nat) (ι0 ι:Inj) (w0:Base) (a:Act) (w:World),Inv n ι0 w0 ι s' a w->
   Region.wanted o (yielded ops.toArray a.tmps)=c:=by
 unfold zu at h;split at h
 ·rename_i l;exact⟨true,s,h,Eqv.refl s,λ_ _ _ _ _ _ _ _ _=>by simp[Region.wanted,l]⟩
 ·rename_i j c l;split at h
  case h_2=>cases h
  rename_i d i;have f:d∈o.looksAt ops.toArray:=by
   unfold Oper.looksAt;unfold gtmp at i;split at i
   ·rename_i v q;simp[l,q,i]
   ·cases i
  have again:∀x,look s.T d=some (some (.b x))->Eqv { s with T:=(d,some (V.b x))::s.T } s:=by
   intro x hx;refine⟨λt=>?_,λ_=>rfl,rfl,rfl,rfl,rfl⟩;show look ((d,some (V.b x))::s.T) t=look s.T t;rw[aV];split
   ·rename_i e;subst e;exact hx.symm
   ·rfl
  split at h
  ·rename_i x hx;cases x
   ·refine⟨!c,_,h,again _ hx,λs' hs n ι0 ι w0 a w m=>?_⟩;obtain⟨y,p,g⟩:=m.tmps d _ (by rw[hs d f];exact hx);simp only[VR]at g;subst g;have hy:=sE i a.tmps;rw[p]at hy;cases c<;>simp[Region.wanted,l,hy]
   ·refine⟨c,_,h,again _ hx,λs' hs n ι0 ι w0 a w m=>?_⟩;obtain⟨y,p,g⟩:=m.tmps d _ (by rw[hs d f];exact hx);simp only[VR]at g;subst g;have hy:=sE i a.tmps;rw[p]at hy;cases c<;>simp[Region.wanted,l,hy]
  ·rename_i hx;refine⟨false,s,h,Eqv.refl s,λs' hs n ι0 ι w0 a w m=>?_⟩;obtain⟨y,p,g⟩:=m.tmps d _ (by rw[hs d f];exact hx);simp only[VR]at g;obtain⟨u,rfl,_⟩:=g;have hy:=sE i a.tmps;rw[p]at hy;simp[Region.wanted,l,hy]
  ·cases h
def yU{ops:Array Oper}{o:Oper}{s s':St}(h:∀t∈o.looksAt ops,look s'.T t=look s.T t):∀x∈o.op.operands.toList,opd s'.T x=opd s.T x:=by
 intro x hx;cases x with
 | tmp t=>
  have:=h t (by
   unfold Oper.looksAt;simp only[ln,List.mem_filterMap];exact .inl ⟨.tmp t,hx,rfl⟩)
  simp only[opd,this]
 | _=>rfl
def O8{α:Type}{E:List Ent}(hE:∀x∈E,fQ P x){n nb0:Nat}{ops:List Oper}{masks:List Nat}{p:Nat}{k:List TE->Option α}{z:α}:∀(l:List Oper) (i:Nat) (s:St) (tr:List TE),
  nb0+8*(i+l.length)<=s.nb->runB P E n nb0 ops masks p i l s tr k=some z->
  ∃(recs:List Rec) (trf:List TE),recs.length=l.length/\k trf=some z/\(∀x∈tr,x∈trf)/\
   (∀j r,recs[j]?=some r->(⟨i+j,r.rd,keys r.wr⟩:TE)∈trf\/(r.rd=[]/\r.wr=[]))/\
   ∀(j:Nat) (o:Oper) (r:Rec),l[j]?=some o->recs[j]?=some r->r.dst=o.dst/\((getN masks (i+j)).testBit p=false->vt P n nb0 ops (i+j) o r ((recs.take j).foldl St.put s))
 | [],i,s,tr,I,h=>⟨[],tr,rfl,h,λ_ h=>h,λj r h=>by simp at h,λj o r h=>by simp at h⟩
 | o::l,i,s,tr,I,h=>by
  simp only[aC]at I;simp only[runB]at h;have more:∀(e:Rec) (d:List TE) (F:St),e.dst=o.dst->((getN masks i).testBit p=false->vt P n nb0 ops i o e s)->Eqv F (s.put e)->s.nb<=F.nb->(∀x∈tr,x∈d)->((⟨i,e.rd,keys e.wr⟩:TE)∈d\/(e.rd=[]/\e.wr=[]))->
    runB P E n nb0 ops masks p (i+1) l F d k=some z->∃(recs:List Rec) (trf:List TE),recs.length=(o::l).length/\k trf=some z/\(∀x∈tr,x∈trf)/\
   (∀j r,recs[j]?=some r->(⟨i+j,r.rd,keys r.wr⟩:TE)∈trf\/(r.rd=[]/\r.wr=[]))/\
   ∀(j:Nat) (y:Oper) (r:Rec),(o::l)[j]?=some y->recs[j]?=some r->r.dst=y.dst/\((getN masks (i+j)).testBit p=false->vt P n nb0 ops (i+j) y r ((recs.take j).foldl St.put s)):=by
   intro e d F M hl e2 X N R h;obtain⟨recs,trf,g1,g2,g4,g5,g6⟩:=O8 hE l (i+1) F d (by omega) h;refine⟨e::recs,trf,by simp[g1],g2,λx hx=>g4 x (N x hx),λj r m=>?_,λj y r L m=>?_⟩
   ·cases j with
    | zero=>simp only[lw,ar]at m;subst m;exact R.imp (g4 _) id
    | succ j=>have:=g5 j r (by simpa using m);rwa[show i+1+j=i+(j+1)by omega]at this
   ·cases j with
    | zero=>
     simp only[lw,ar]at L m;subst L m;exact⟨M,hl⟩
    | succ j=>
     obtain⟨p1,W⟩:=g6 j y r (by simpa using L) (by simpa using m);rw[show i+1+j=i+(j+1)by omega]at W;exact⟨p1,λu=>(W u).eqv (by simpa using Eqv.puts (recs.take j) e2)⟩
  split at h
  ·rename_i C;exact more ⟨o.dst,none,[],[]⟩ tr (s.app o.dst none [] s.nb) rfl (λu=>by rw[C]at u;cases u) (Eqv.refl _) (bg _) (λ_ h=>h) (.inr ⟨rfl,rfl⟩) h
  obtain⟨B,G,h,q,V⟩:=Ae h;have c:G.nb=s.nb:=q.nb;cases B
  ·simp only at h;split at h
   case h_2=>cases h
   rename_i M;refine more ⟨o.dst,some (.tp []),[],[]⟩ tr (G.app o.dst (some (.tp [])) [] G.nb) rfl (λ_ s' J q2 Z Y ι0 w0 ι a w D A K Q S=>?_) (q.put ⟨o.dst,some (.tp []),[],[]⟩) (zr c.symm) (λ_ h=>h) (.inr ⟨rfl,rfl⟩) h;rw[V s' J n ι0 ι w0 a w D];simp only[bU,aG];exact S ι _ _ (λ_ _=>rfl) (D.skip M)
  ·simp only at h;rcases E3 hE (by omega) h with⟨val,wr,rd,g,O,f⟩ | ⟨v,wr,rd,O,f⟩
   ·refine more ⟨o.dst,val,wr,rd⟩ (⟨i,rd,keys wr⟩::tr) (G.app o.dst val wr G.nb) rfl (λ_ s' J q2 Z Y ι0 w0 ι a w D A K Q S=>?_) (q.put ⟨o.dst,val,wr,rd⟩) (zr c.symm) (λx hx=>fV _ hx) (.inl (by simp[keys])) O;rw[V s' J n ι0 ι w0 a w D];simp only[aQ];refine f s' (yU λt ht=>by rw[J t ht,q.T]) (λb u=>by rw[q2 b u,q.H]) (by rw[Z,c]) (by rw[Y,q.ro]) ι0 w0 ι a w D (by simpa using A) K Q λU a' w' z1 z2=>S U a' w' (by simpa using z1) z2
   ·cases O
def Cj {α:Type} {E:List Ent} (hE:∀x∈E,fQ P x) {n nb0:Nat} {ops:List Oper} {masks:List Nat} {k:St->List TE->Option α} {kp:Nat->V->St->List TE->Option α} {z:α}:∀(l:List Oper) (i:Nat) (s:St) (tr:List TE),
  nb0+8*(i+l.length)<=s.nb->runD P E n nb0 ops masks kp i l s tr k=some z->
  (∃(recs:List Rec) (d:St) (trf:List TE),recs.length=l.length/\k d trf=some z/\Eqv d (recs.foldl St.put s)/\(∀x∈tr,x∈trf)/\
   (∀j r,recs[j]?=some r->(⟨i+j,r.rd,keys r.wr⟩:TE)∈trf\/(r.rd=[]/\r.wr=[]))/\
   ∀(j:Nat) (o:Oper) (r:Rec),l[j]?=some o->recs[j]?=some r->r.dst=o.dst/\vt P n nb0 ops (i+j) o r ((recs.take j).foldl St.put s))\/
  (∃(p:Nat) (op:Oper) (recs:List Rec) (d:St) (L:St) (trf:List TE) (v:V) (wr:List (Nat×Blk)) (u:Rec),recs.length=l.length/\l[p]?=some op/\recs[p]?=some u/\u.dst=op.dst/\u.wr=[]/\L=d.app none none wr d.nb/\kp (i+p) v L trf=some z/\Eqv d ((recs.take p).foldl St.put s)/\(∀x∈tr,x∈trf)/\
   AP P n nb0 ops (i+p) op v wr u.rd ((recs.take p).foldl St.put s)/\
   (∀j r,recs[j]?=some r->j≠p->(⟨i+j,r.rd,keys r.wr⟩:TE)∈trf\/(r.rd=[]/\r.wr=[]))/\
   ∀(j:Nat) (o:Oper) (r:Rec),l[j]?=some o->recs[j]?=some r->r.dst=o.dst/\((j<p\/(p<j/\(getN masks (i+j)).testBit (i+p)=false))->vt P n nb0 ops (i+j) o r ((recs.take j).foldl St.put s)))
 | [],i,s,tr,hnb,h=>.inl ⟨[],s,tr,rfl,h,Eqv.refl s,λ_ h=>h,λj r h=>by simp at h,λj o r h=>by simp at h⟩
 | o::l,i,s,tr,hnb,h=>by
  simp only [aC] at hnb;simp only [runD] at h;obtain ⟨S,G,h,q,hw⟩:=Ae h;have e:G.nb=s.nb:=q.nb;have more:∀(B:Rec) (A:List TE) (Y:St),B.dst=o.dst->vt P n nb0 ops i o B s->Eqv Y (s.put B)->s.nb<=Y.nb->(∀x∈tr,x∈A)->((⟨i,B.rd,keys B.wr⟩:TE)∈A\/(B.rd=[]/\B.wr=[]))->
    runD P E n nb0 ops masks kp (i+1) l Y A k=some z->
    (∃(recs:List Rec) (d:St) (trf:List TE),recs.length=(o::l).length/\k d trf=some z/\Eqv d (recs.foldl St.put s)/\(∀x∈tr,x∈trf)/\
   (∀j r,recs[j]?=some r->(⟨i+j,r.rd,keys r.wr⟩:TE)∈trf\/(r.rd=[]/\r.wr=[]))/\
   ∀(j:Nat) (f:Oper) (r:Rec),(o::l)[j]?=some f->recs[j]?=some r->r.dst=f.dst/\vt P n nb0 ops (i+j) f r ((recs.take j).foldl St.put s))\/
    (∃(p:Nat) (op:Oper) (recs:List Rec) (d:St) (L:St) (trf:List TE) (v:V) (wr:List (Nat×Blk)) (u:Rec),recs.length=(o::l).length/\(o::l)[p]?=some op/\recs[p]?=some u/\u.dst=op.dst/\u.wr=[]/\L=d.app none none wr d.nb/\kp (i+p) v L trf=some z/\Eqv d ((recs.take p).foldl St.put s)/\(∀x∈tr,x∈trf)/\
   AP P n nb0 ops (i+p) op v wr u.rd ((recs.take p).foldl St.put s)/\
   (∀j r,recs[j]?=some r->j≠p->(⟨i+j,r.rd,keys r.wr⟩:TE)∈trf\/(r.rd=[]/\r.wr=[]))/\
   ∀(j:Nat) (f:Oper) (r:Rec),(o::l)[j]?=some f->recs[j]?=some r->r.dst=f.dst/\((j<p\/(p<j/\(getN masks (i+j)).testBit (i+p)=false))->vt P n nb0 ops (i+j) f r ((recs.take j).foldl St.put s))):=by
   intro B A Y hd hl J hnb2 W X h;rcases Cj hE l (i+1) Y A (by omega) h with ⟨recs,d,trf,g1,N,g3,M,R,g6⟩ | ⟨p,op,recs,d,L,trf,v,wr,u,g1,g0,gr,gd,gw,gs,N,g3,M,g7,R,g6⟩
   ·refine .inl ⟨B::recs,d,trf,by simp [g1],N,g3.trans (Eqv.puts recs J),λx hx=>M x (W x hx),λj r c=>?_,λj f r m c=>?_⟩
    ·cases j with
     | zero=>simp only [lw,ar] at c;subst c;exact X.imp (M _) id
     | succ j=>have:=R j r (by simpa using c);rwa [show i+1+j=i+(j+1) by omega] at this
    ·cases j with
     | zero=>
      simp only [lw,ar] at m c;subst m c;exact ⟨hd,hl⟩
     | succ j=>
      obtain ⟨O,D⟩:=g6 j f r (by simpa using m) (by simpa using c);rw [show i+1+j=i+(j+1) by omega] at D;exact ⟨O,D.eqv (by simpa using Eqv.puts (recs.take j) J)⟩
   ·rw [show i+1+p=i+(p+1) by omega] at N g7;refine .inr ⟨p+1,op,B::recs,d,L,trf,v,wr,u,by simp [g1],by simpa using g0,by simpa using gr,gd,gw,gs,N,g3.trans (by simpa using Eqv.puts (recs.take p) J),λx hx=>M x (W x hx),g7.eqv (by simpa using Eqv.puts (recs.take p) J),λj r c U=>?_,λj f r m c=>?_⟩
    ·cases j with
     | zero=>simp only [lw,ar] at c;subst c;exact X.imp (M _) id
     | succ j=>have:=R j r (by simpa using c) (by omega);rwa [show i+1+j=i+(j+1) by omega] at this
    ·cases j with
     | zero=>
      simp only [lw,ar] at m c;subst m c;exact ⟨hd,λ_=>hl⟩
     | succ j=>
      obtain ⟨O,D⟩:=g6 j f r (by simpa using m) (by simpa using c);rw [show i+1+j=i+(j+1) by omega,show i+1+p=i+(p+1) by omega] at D;exact ⟨O,λhc=>(D (hc.imp (λh=>by omega) λh=>⟨by omega,h.2⟩)).eqv (by simpa using Eqv.puts (recs.take j) J)⟩
  cases S
  ·simp only at h;split at h
   case h_2=>cases h
   rename_i hd;refine more ⟨o.dst,some (.tp []),[],[]⟩ tr (G.app o.dst (some (.tp [])) [] G.nb) rfl (λs' I q2 q3 Z ι0 w0 ι a w F C K Q hK=>?_) (q.put ⟨o.dst,some (.tp []),[],[]⟩) (zr e.symm) (λ_ h=>h) (.inr ⟨rfl,rfl⟩) h;rw [hw s' I n ι0 ι w0 a w F];simp only [bU,aG];exact hK ι _ _ (λ_ _=>rfl) (F.skip hd)
  ·simp only at h;rcases E3 hE (by omega) h with ⟨val,wr,rd,g,hk,y⟩ | ⟨v,wr,rd,hk,y⟩
   ·refine more ⟨o.dst,val,wr,rd⟩ (⟨i,rd,keys wr⟩::tr) (G.app o.dst val wr G.nb) rfl (λs' I q2 q3 Z ι0 w0 ι a w F C K Q hK=>?_) (q.put ⟨o.dst,val,wr,rd⟩) (zr e.symm) (λx hx=>fV _ hx) (.inl (by simp [keys])) hk;rw [hw s' I n ι0 ι w0 a w F];simp only [aQ];refine y s' (yU λt ht=>by rw [I t ht,q.T]) (λb hb=>by rw [q2 b hb,q.H]) (by rw [q3,e]) (by rw [Z,q.ro]) ι0 w0 ι a w F (by simpa using C) K Q λι' a' w' z1 z2=>hK ι' a' w' (by simpa using z1) z2
   ·obtain ⟨recs,trf,g1,N,M,R,g6⟩:=O8 hE l (i+1) _ tr (by simp only [St.app];omega) hk;have J:Eqv (G.app o.dst none [] G.nb) (s.put ⟨o.dst,none,[],rd⟩):=q.put ⟨o.dst,none,[],rd⟩;refine .inr ⟨0,o,⟨o.dst,none,[],rd⟩::recs,G,_,trf,v,wr,⟨o.dst,none,[],rd⟩,by simp [g1],rfl,rfl,rfl,rfl,rfl,N,q,M,λs' I q2 q3 Z ι0 w0 ι a w F C K Q hK=>?_,λj r c U=>?_,λj f r m c=>?_⟩
    ·simp only [nr,HB] at I q2 q3 Z;exact ⟨hw s' I n ι0 ι w0 a w F,y s' (yU λt ht=>by rw [I t ht,q.T]) (λb hb=>by rw [q2 b hb,q.H]) (by rw [q3,e]) (by rw [Z,q.ro]) ι0 w0 ι a w F (by simpa using C) K Q hK⟩
    ·cases j with
     | zero=>exact absurd rfl U
     | succ j=>have:=R j r (by simpa using c);rwa [show i+1+j=i+(j+1) by omega] at this
    ·cases j with
     | zero=>
      simp only [lw,ar] at m c;subst m c;exact ⟨rfl,λh=>by omega⟩
     | succ j=>
      obtain ⟨O,D⟩:=g6 j f r (by simpa using m) (by simpa using c);rw [show i+1+j=i+(j+1) by omega] at D;refine ⟨O,λhc=>(D ?_).eqv (by simpa using Eqv.puts (recs.take j) J)⟩;rcases hc with hc | hc
      ·omega
      ·exact hc.2
def Down(ops:List Oper)(D:Nat->Bool):Prop:=∀j o e,ops[j]?=some o->D j=true->e∈o.after.toList->Region.binds .any e=true->D e.on=true
def Must(ops:List Oper)(i j:Nat):Prop:=∀D,Down ops D->D j=true->D i=true
def Dn(a:Array Bool):Nat->Bool:=λi=>a.getD i false
structure DrawFacts(P:Program)(n nb0:Nat)(ops:List Oper)(recs:List Rec)(s0:St)(live:Nat->Prop):Prop where
 len:recs.length=ops.length
 nb:s0.nb=nb0+8*ops.length
 loc:∀(j:Nat) (o:Oper) (r:Rec),ops[j]?=some o->recs[j]?=some r->(∀t,r.dst=some t->o.dst=some t)/\(live j->vt P n nb0 ops j o r (appD 0 recs (λm=>decide (m<j)) s0))
 down:∀(j:Nat) (o:Oper) (e:Edge),ops[j]?=some o->e∈o.after.toList->Region.binds .any e=true->e.on<j
 apart:∀(i j:Nat) (x y:Oper),i<j->ops[i]?=some x->ops[j]?=some y->Must ops i j\/x.apart ops.toArray y=true
 blk:∀(i j:Nat) (x y:Rec),i<j->recs[i]?=some x->recs[j]?=some y->Must ops i j\/((∀b∈keys x.wr,b∉y.rd/\b∉keys y.wr)/\∀b∈x.rd,b∉keys y.wr)
def ur{ops:List Oper}{a:Array Bool}{i:Nat}(hs:a.size=ops.length)(h:i∈Region.ready .any ops.toArray a):
  ∃o,ops[i]?=some o/\i<ops.length/\Dn a i=false/\∀e∈o.after.toList,Region.binds .any e=true->Dn a e.on=true:=by
 unfold Region.ready at h;simp only[mf,gS,aA,zi]at h;obtain⟨b,f,c⟩:=h;have d:ops[i]?=some ops[i]:=by simp[b]
 refine⟨ops[i],d,b,?_,λe j g=>?_⟩
 ·unfold Dn;have:i<a.size:=by omega
  simp only[rj,XQ this,yf]at f ⊢;simpa using f
 ·simp only[List.getElem?_toArray,d,fm,yf]at c;have:=(Array.all_eq_true'.1 c) e (by simpa using j);simp only[g,dT,tq]at this;exact this
def Bg{ops:List Oper}{a:Array Bool}{i:Nat}{o:Oper}(hs:a.size=ops.length)(c:ops[i]?=some o)(b:Dn a i=false)
  (h:∀e∈o.after.toList,Region.binds .any e=true->Dn a e.on=true):i∈Region.ready .any ops.toArray a:=by
 have hi:i<ops.length:=by
  rcases aN i ops.length with d | d
  ·exact d
  ·rw[gh d]at c;cases c
 unfold Region.ready;simp only[mf,gS,aA,zi];refine⟨hi,?_,?_⟩
 ·have:i<a.size:=by omega
  unfold Dn at b;simp only[rj,XQ this,yf]at b ⊢;simp[b]
 ·simp only[List.getElem?_toArray,c,fm,yf];refine Array.all_eq_true'.2 λe g=>?_;cases f:Region.binds .any e with
  | false=>rfl
  | true=>
   have:=h e (by simpa using g) f;unfold Dn at this;simpa using this
def Aa{a:Array Bool}{i:Nat}(h:i<a.size)(j:Nat):Dn (a.setIfInBounds i true) j=if j=i then true else Dn a j:=by
 unfold Dn;simp only[rj];rw[Vl];by_cases b:i=j
 ·subst b;simp[h]
 ·simp[b,show¬j=i fromλe=>b e.symm]
def Down.add{ops:List Oper}{D:Nat->Bool}(h:Down ops D){i:Nat}{o:Oper}(Q:ops[i]?=some o)(U:∀e∈o.after.toList,Region.binds .any e=true->D e.on=true):
  Down ops λj=>if j=i then true else D j:=by
 intro j O e E G J F;show(if e.on=i then true else D e.on)=true;by_cases C:j=i
 ·subst C;rw[Q]at E;cases E;have:=U e J F;split
  ·rfl
  ·exact this
 ·simp only[C,aG]at G;have:=h j O e E G J F;split
  ·rfl
  ·exact this
def Must.in{ops:List Oper}{D:Nat->Bool}(h:Down ops D){i k:Nat}{o:Oper}(G:ops[i]?=some o)(E:∀e∈o.after.toList,Region.binds .any e=true->D e.on=true)
  (F:Must ops k i) (C:k≠i):D k=true:=by
 have:=F _ (h.add G E) (by simp);simpa[C]using this
section
variable {n nb0:Nat} {ops:List Oper} {recs:List Rec} {s0:St} {live:Nat->Prop} (F:DrawFacts P n nb0 ops recs s0 live)
include F
def yA{i:Nat}{o:Oper}(h:ops[i]?=some o):∃r,recs[i]?=some r:=by
 have hi:i<ops.length:=by
  rcases aN i ops.length with h' | h'
  ·exact h'
  ·rw[gh h']at h;cases h
 exact⟨recs[i]'(by rw[F.len];exact hi),by simp[F.len,hi]⟩
def xQ{i:Nat}{r:Rec}(h:recs[i]?=some r):∃o,ops[i]?=some o:=by
 have hi:i<recs.length:=by
  rcases aN i recs.length with h' | h'
  ·exact h'
  ·rw[gh h']at h;cases h
 exact⟨ops[i]'(by rw[<-F.len];exact hi),by simp[F.len▸hi]⟩
def Ce{D:Nat->Bool}(s:Down ops D){i:Nat}{o:Oper}(n:ops[i]?=some o)(q:D i=false)(x:∀e∈o.after.toList,Region.binds .any e=true->D e.on=true)
  {t:Nat} (u:t∈o.looksAt ops.toArray):look (appD 0 recs D s0).T t=look (appD 0 recs (λm=>decide (m<i)) s0).T t:=by
 rw[An,An];refine uc recs 0 _ _ t _ λj r v w=>?_;simp only[cU];obtain⟨g,c⟩:=xQ F v;have a:=((F.loc j g r c v).1 t w).symm;rcases Hl j i with d | l | p
 ·have f:D j=true:=by
   rcases F.apart j i g o d c n with h | b
   ·exact h.in s n x (by omega)
   ·exact absurd u ((F9 b).1 t a.symm)
  rw[f];simp[d]
 ·subst l;simp[q]
 ·have f:D j=false:=by
   rcases F.apart i j o g p n c with h | b
   ·cases k:D j with
    | false=>rfl
    | true=>have:=h D s k;rw[q]at this;cases this
   ·exact absurd u ((F9 b).2.2 t a.symm)
  rw[f];simp;omega
def BQ{D:Nat->Bool}(n:Down ops D){i:Nat}{o:Oper}{r:Rec}(v:ops[i]?=some o)(s:recs[i]?=some r)(l:D i=false)
  (w:∀e∈o.after.toList,Region.binds .any e=true->D e.on=true) {b:Nat} (p:b∈r.rd):look (appD 0 recs D s0).H b=look (appD 0 recs (λm=>decide (m<i)) s0).H b:=by
 rw[zb,zb];refine qC recs 0 _ _ b _ λj t u q=>?_;simp only[cU];rcases Hl j i with c | h | k
 ·have d:D j=true:=by
   rcases F.blk j i t r c u s with f | a
   ·exact f.in n v w (by omega)
   ·exact absurd p (a.1 b q).1
  rw[d];simp[c]
 ·subst h;simp[l]
 ·have d:D j=false:=by
   rcases F.blk i j r t k s u with f | a
   ·cases g:D j with
    | false=>rfl
    | true=>have:=f D n g;rw[l]at this;cases this
   ·exact absurd q (a.2 b p)
  rw[d];simp;omega
def BA{D:Nat->Bool}(A:Down ops D){i:Nat}{o:Oper}{r:Rec}(z:ops[i]?=some o)(f:recs[i]?=some r)(B:D i=false):
  Eqv ((appD 0 recs D s0).put r) (appD 0 recs (λj=>if j=i then true else D j) s0):=by
 have h:=(F.loc i o r z f).1;refine⟨λt=>?_,λb=>?_,by rw[Xp,mz,mz],by show(appD 0 recs D s0).lo=_;rw[yN,yN],by show(appD 0 recs D s0).ro=_;rw[jF,jF],by show(appD 0 recs D s0).rb=_;rw[yJ,yJ]⟩
 ·rw[P3,An,An];by_cases l:r.dst=some t
  ·rw[af l];symm;refine Jc recs 0 i _ t _ r f (by simp) l λk p x c q=>?_;simp only[cU,show¬k=i by omega,aG];obtain⟨ok,g⟩:=xQ F c;have u:=(F.loc k ok p g c).1;rcases F.apart i k o ok x z g with y | e
   ·cases d:D k with
    | false=>rfl
    | true=>have:=y D A d;rw[B]at this;cases this
   ·exact absurd (u t q) ((F9 e).2.1 t (h t l))
  ·rw[ae l];refine uc recs 0 _ _ t _ λj p n w=>?_;simp only[cU];by_cases a:j=i
   ·subst a;rw[f]at n;cases n;exact absurd w l
   ·simp[a]
 ·rw[QI,zb,zb];by_cases m:b∈keys r.wr
  ·obtain⟨v,C⟩:=sO m;rw[C,Option.some_or];symm;rw[<-C];refine I3 recs 0 i _ b _ r f (by simp) m λk p x c s=>?_;simp only[cU,show¬k=i by omega,aG];rcases F.blk i k r p x f c with y | e
   ·cases d:D k with
    | false=>rfl
    | true=>have:=y D A d;rw[B]at this;cases this
   ·exact absurd s (e.1 b m).2
  ·rw[rq m,Gx];refine qC recs 0 _ _ b _ λj p n s=>?_;simp only[cU];by_cases a:j=i
   ·subst a;rw[f]at n;cases n;exact absurd s m
   ·simp[a]
def Eh {kk:Nat} (y:∀j,kk<=j->j<ops.length->live j) {ι0:Inj} {w0:Base} {Q:Exit->Act->World->Prop} (S:∀ι a w,Inv n ι0 w0 ι (recs.foldl St.put s0) a w->Q .normal a w):
  ∀(fuel:Nat) (c:Array Bool) (ι:Inj) (a:Act) (w:World),c.size=ops.length->(∀j,j<kk->Dn c j=true)->Down ops (Dn c)->Inv n ι0 w0 ι (appD 0 recs (Dn c) s0) a w->
   (∀i,i<ops.length->Dn c i=false->∀b,nb0+8*i<=b->b<nb0+8*i+8->ι b=none)->((List.range ops.length).filter λi=>!Dn c i).length<=fuel->
   wpAny P .any ops.toArray Q fuel c a w:=by
 have fin:∀(c:Array Bool) (ι:Inj) (a:Act) (w:World),c.size=ops.length->Inv n ι0 w0 ι (appD 0 recs (Dn c) s0) a w->Region.ready .any ops.toArray c=[]->Q .normal a w:=by
  intro c ι a w hs s m;have C:∀j,j<ops.length->Dn c j=true:=by
   intro j
   induction j using Nat.strongRecOn with
   | _ j ih=>
    intro v;cases G:Dn c j with
    | true=>rfl
    | false=>
     have f:ops[j]?=some ops[j]:=by simp [v]
     have N:=Bg hs f G λe M E=>ih e.on (F.down j _ e f M E) (by have:=F.down j _ e f M E;omega);rw [m] at N;cases N
  rw [BK recs 0 (Dn c) s0 λj v=>by simpa using C j (by rw [<-F.len];exact v)] at s;exact S ι a w s
 intro fuel
 induction fuel with
 | zero=>
  intro c ι a w hs u z s q hc;have m:Region.ready .any ops.toArray c=[]:=by
   rw [List.eq_nil_iff_forall_not_mem];intro i hi;obtain ⟨o,f,g,p,_⟩:=ur hs hi;have:i∈(List.range ops.length).filter λi=>!Dn c i:=by simp [g,p]
   have:=Gy this;omega
  exact ⟨m,fin c ι a w hs s m⟩
 | succ fuel ih=>
  intro c ι a w hs u z s q hc;refine ⟨fin c ι a w hs s,λi hi=>?_⟩;obtain ⟨o,f,g,p,I⟩:=ur hs hi;obtain ⟨r,m⟩:=yA F f;have A:=(F.loc i o r f m).2 (y i (by rcases aN i kk with h | h;(· have:=u i h;rw [p] at this;cases this);exact h) g);have d:Dn (c.setIfInBounds i true)=λj=>if j=i then true else Dn c j:=by
   funext j;exact Aa (by omega) j
  have D:=A (appD 0 recs (Dn c) s0) (λt O=>Ce F z f p I O) (λb E=>BQ F z f m p I E) (by rw [mz,mz]) (by rw [jF,jF]) ι0 w0 ι a w s (q i g p)
   (wpAny P .any ops.toArray Q fuel (c.setIfInBounds i true)) Q λK U w' R T=>by
    refine ih _ K U w' (by simpa using hs) (λj v=>by rw [d];simp only;split;(· rfl);exact u j v) (by rw [d];exact z.add f I) (by rw [d];exact T.eqv (BA F z f m p)) (λj v k b H L=>?_) ?_
    ·rw [d] at k;by_cases l:j=i
     ·simp [l] at k
     ·simp only [l,aG] at k;rw [R b (by omega)];exact q j v k b H L
    ·have:((List.range ops.length).filter λj=>!Dn (c.setIfInBounds i true) j).length<((List.range ops.length).filter λj=>!Dn c j).length:=by
      rw [d];have B:((List.range ops.length).filter λj=>!(if j=i then true else Dn c j))=((List.range ops.length).filter λj=>!Dn c j).filter λj=>decide (j≠i):=by
       rw [Jw];congr 1;funext j;by_cases l:j=i<;>simp [l]
      rw [B];refine A7.2 ⟨i,by simp [g,p],by simp⟩
     omega
  unfold wpOp;have J:ops.toArray[i]?=some o:=by simpa using f
  rw [J];simp only;split
  ·rename_i x;rw [af x] at D;exact .inl D
  ·rename_i x;rw [ae x] at D;exact D
def P0 {lim kk:Nat} (B:lim<ops.length) (g:∀j,kk<=j->j<lim->live j/\Must ops j lim) (x:∀j,lim<j->j<ops.length->Must ops lim j) {ι0:Inj} {w0:Base} {Q:Exit->Act->World->Prop}
  (W:∀(fuel:Nat) (c:Array Bool) (ι:Inj) (a:Act) (w:World),c.size=ops.length->(∀j,j<lim->Dn c j=true)->Dn c lim=false->Down ops (Dn c)->Down ops (Dn (c.setIfInBounds lim true))->
   Inv n ι0 w0 ι (appD 0 recs (Dn c) s0) a w->((List.range ops.length).filter λi=>!Dn c i).length<=fuel+1->wpOp P ops.toArray Q lim (wpAny P .any ops.toArray Q fuel (c.setIfInBounds lim true)) a w):
  ∀(fuel:Nat) (c:Array Bool) (ι:Inj) (a:Act) (w:World),c.size=ops.length->(∀j,j<kk->Dn c j=true)->Down ops (Dn c)->Dn c lim=false->Inv n ι0 w0 ι (appD 0 recs (Dn c) s0) a w->
   (∀i,i<ops.length->Dn c i=false->∀b,nb0+8*i<=b->b<nb0+8*i+8->ι b=none)->((List.range ops.length).filter λi=>!Dn c i).length<=fuel->
   wpAny P .any ops.toArray Q fuel c a w:=by
 have fin:∀(c:Array Bool),c.size=ops.length->Dn c lim=false->Region.ready .any ops.toArray c=[]->False:=by
  intro c hs hp s;have G:∀j,j<ops.length->Dn c j=true:=by
   intro j
   induction j using Nat.strongRecOn with
   | _ j ih=>
    intro u;cases J:Dn c j with
    | true=>rfl
    | false=>
     have f:ops[j]?=some ops[j]:=by simp [u]
     have T:=Bg hs f J λe S I=>ih e.on (F.down j _ e f S I) (by have:=F.down j _ e f S I;omega);rw [s] at T;cases T
  rw [G lim B] at hp;cases hp
 intro fuel
 induction fuel with
 | zero=>
  intro c ι a w hs m l hp L q hc;have:lim∈(List.range ops.length).filter λi=>!Dn c i:=by simp [B,hp]
  have:=Gy this;omega
 | succ fuel ih=>
  intro c ι a w hs m l hp L q hc;refine ⟨λs=>(fin c hs hp s).elim,λi hi=>?_⟩;obtain ⟨o,f,v,y,A⟩:=ur hs hi;obtain ⟨r,s⟩:=yA F f;have d:Dn (c.setIfInBounds i true)=λj=>if j=i then true else Dn c j:=by
   funext j;exact Aa (by omega) j
  by_cases C:i=lim
  ·subst C;refine W fuel c ι a w hs (λj u=>?_) y l (by rw [d];exact l.add f A) L hc;rcases aN j kk with h | h
   ·exact m j h
   ·exact (g j h u).2.in l f A (by omega)
  have M:ops.toArray[i]?=some o:=by simpa using f
  unfold wpOp;rw [M];simp only;have hlt':i<lim:=by
   rcases aN i lim with h | h
   ·exact h
   ·have:=(x i (by omega) v).in l f A (λe=>C e.symm);rw [hp] at this;cases this
  have N:kk<=i:=by
   rcases aN i kk with h | h
   ·have:=m i h;rw [y] at this;cases this
   ·exact h
  have D:=(F.loc i o r f s).2 (g i N hlt').1
  have H:=D (appD 0 recs (Dn c) s0) (λt U=>Ce F l f y A U) (λb I=>BQ F l f s y A I) (by rw [mz,mz]) (by rw [jF,jF]) ι0 w0 ι a w L (q i v y)
   (wpAny P .any ops.toArray Q fuel (c.setIfInBounds i true)) Q λO Y w' V X=>by
    refine ih _ O Y w' (by simpa using hs) (λj u=>by rw [d];simp only;split;(· rfl);exact m j u) (by rw [d];exact l.add f A) (by rw [d];simp only [show ¬lim=i by omega,aG];exact hp) (by rw [d];exact X.eqv (BA F l f s y)) (λj u k b K R=>?_) ?_
    ·rw [d] at k;by_cases p:j=i
     ·simp [p] at k
     ·simp only [p,aG] at k;rw [V b (by omega)];exact q j u k b K R
    ·have:((List.range ops.length).filter λj=>!Dn (c.setIfInBounds i true) j).length<((List.range ops.length).filter λj=>!Dn c j).length:=by
      rw [d];have E:((List.range ops.length).filter λj=>!(if j=i then true else Dn c j))=((List.range ops.length).filter λj=>!Dn c j).filter λj=>decide (j≠i):=by
       rw [Jw];congr 1;funext j;by_cases p:j=i<;>simp [p]
      rw [E];refine A7.2 ⟨i,by simp [v,y],by simp⟩
     omega
  split
  ·rename_i z;rw [af z] at H;exact .inl H
  ·rename_i z;rw [ae z] at H;exact H
def RB {lim:Nat} {ι0:Inj} {w0:Base} {Q:Exit->Act->World->Prop} {S:Oper} {pr:Rec} {v:V} {wr:List (Nat×Blk)} (g:ops[lim]?=some S) (H:recs[lim]?=some pr)
  (R:AP P n nb0 ops lim S v wr pr.rd (appD 0 recs (λm=>decide (m<lim)) s0))
  (A:∀j,j<ops.length->j≠lim->live j\/Must ops lim j)
  (hQ:∀D,Down ops D->(∀e∈S.after.toList,Region.binds .any e=true->D e.on=true)->D lim=false->∀ι x a w,VR ι v x->Inv n ι0 w0 ι ((appD 0 recs D s0).app none none wr s0.nb) a w->Q (.panic [{ v:=x,recovered:=false }]) a w):
  ∀(fuel:Nat) (c:Array Bool) (ι:Inj) (a:Act) (w:World),c.size=ops.length->Down ops (Dn c)->Dn c lim=false->Inv n ι0 w0 ι (appD 0 recs (Dn c) s0) a w->
   (∀i,i<ops.length->Dn c i=false->∀b,nb0+8*i<=b->b<nb0+8*i+8->ι b=none)->((List.range ops.length).filter λi=>!Dn c i).length<=fuel->
   wpAny P .any ops.toArray Q fuel c a w:=by
 have G:lim<ops.length:=by
  rcases aN lim ops.length with h' | h'
  ·exact h'
  ·rw [gh h'] at g;cases g
 have fin:∀(c:Array Bool),c.size=ops.length->Dn c lim=false->Region.ready .any ops.toArray c=[]->False:=by
  intro c hs hp p;have K:∀j,j<ops.length->Dn c j=true:=by
   intro j
   induction j using Nat.strongRecOn with
   | _ j ih=>
    intro hj;cases O:Dn c j with
    | true=>rfl
    | false=>
     have f:ops[j]?=some ops[j]:=by simp [hj]
     have M:=Bg hs f O λe he E=>ih e.on (F.down j _ e f he E) (by have:=F.down j _ e f he E;omega);rw [p] at M;cases M
  rw [K lim G] at hp;cases hp
 intro fuel
 induction fuel with
 | zero=>
  intro c ι a w hs l hp X h hc;have:lim∈(List.range ops.length).filter λi=>!Dn c i:=by simp [G,hp]
  have:=Gy this;omega
 | succ fuel ih=>
  intro c ι a w hs l hp X h hc;refine ⟨λp=>(fin c hs hp p).elim,λi hi=>?_⟩;obtain ⟨o,f,q,s,z⟩:=ur hs hi;obtain ⟨r,p⟩:=yA F f;have Y:ops.toArray[i]?=some o:=by simpa using f
  unfold wpOp;rw [Y];simp only;by_cases y:i=lim
  case neg=>
   rcases A i q y with T | M
   case inr=>
    have:=M.in l f z (λe=>y e.symm);rw [hp] at this;cases this
   have I:=(F.loc i o r f p).2 T;have d:Dn (c.setIfInBounds i true)=λj=>if j=i then true else Dn c j:=by
    funext j;exact Aa (by omega) j
   have L:=I (appD 0 recs (Dn c) s0) (λt U=>Ce F l f s z U) (λb E=>BQ F l f p s z E) (by rw [mz,mz]) (by rw [jF,jF]) ι0 w0 ι a w X (h i q s)
    (wpAny P .any ops.toArray Q fuel (c.setIfInBounds i true)) Q λB a' w' Z N=>by
     refine ih _ B a' w' (by simpa using hs) (by rw [d];exact l.add f z) (by rw [d];simp only [show ¬lim=i by omega,aG];exact hp) (by rw [d];exact N.eqv (BA F l f p s)) (λj hj k b W hb2=>?_) ?_
     ·rw [d] at k;by_cases u:j=i
      ·simp [u] at k
      ·simp only [u,aG] at k;rw [Z b (by omega)];exact h j hj k b W hb2
     ·have:((List.range ops.length).filter λj=>!Dn (c.setIfInBounds i true) j).length<((List.range ops.length).filter λj=>!Dn c j).length:=by
       rw [d];have J:((List.range ops.length).filter λj=>!(if j=i then true else Dn c j))=((List.range ops.length).filter λj=>!Dn c j).filter λj=>decide (j≠i):=by
        rw [Jw];congr 1;funext j;by_cases u:j=i<;>simp [u]
       rw [J];refine A7.2 ⟨i,by simp [q,s],by simp⟩
      omega
   split
   ·rename_i C;rw [af C] at L;exact .inl L
   ·rename_i C;rw [ae C] at L;exact L
  case pos=>
   subst y;rw [g] at f;cases f;rw [H] at p;cases p
   obtain ⟨q1,q2⟩:=R (appD 0 recs (Dn c) s0) (λt U=>Ce F l g s z U) (λb E=>BQ F l g H s z E) (by rw [mz,mz]) (by rw [jF,jF]) ι0 w0 ι a w X (h i q s)
    (wpAny P .any ops.toArray Q fuel (c.setIfInBounds i true)) Q λB x w' Z N=>hQ _ l z s B x a w' Z (by rw [mz] at N;exact N)
   rw [af q1];exact .inl q2
end
def Du:∀{l:List Nat} {j:Nat},l.length<=j->getN l j=0
 | [],_,_=>rfl
 | _::_,0,h=>by simp at h
 | _::l,j+1,h=>Du (l:=l) (by simpa using h)
def th:∀{l m:List Nat} {j:Nat},j<l.length->getN (l++m) j=getN l j
 | [],_,_,h=>by simp at h
 | _::_,_,0,_=>rfl
 | _::l,m,j+1,h=>th (l:=l) (m:=m) (by simpa using h)
def tz:∀(l:List Nat) (x:Nat),getN (l++[x]) l.length=x
 | [],_=>rfl
 | _::l,x=>tz l x
def tQ(acc:List Nat):∀(l:List Edge) (s i:Nat),(EU acc l s).testBit i=true->s.testBit i=true\/∃e∈l,Region.binds .any e=true/\(e.on=i\/(getN acc e.on).testBit i=true)
 | [],s,i,h=>.inl h
 | e::l,s,i,h=>by
  simp only[EU]at h;split at h
  ·rename_i f;rcases tQ acc l _ i h with a | ⟨c,b,d⟩
   ·simp only[Nat.testBit_or,iG]at a;rcases a with(a | a) | a
    ·exact .inl a
    ·refine .inr ⟨e,by simp,f,.inl ?_⟩;rw[Nat.testBit_two_pow]at a;simpa using a
    ·exact .inr ⟨e,by simp,f,.inr a⟩
   ·exact .inr ⟨c,fV _ b,d⟩
  ·rcases tQ acc l _ i h with a | ⟨c,b,d⟩
   ·exact .inl a
   ·exact .inr ⟨c,fV _ b,d⟩
def qs(ops:List Oper):∀(r:List Oper) (acc:List Nat),(∀j,r[j]?=ops[acc.length+j]?)->(∀j i,(getN acc j).testBit i=true->Must ops i j)->
  ∀j i,(getN (lS r acc) j).testBit i=true->Must ops i j
 | [],acc,_,h=>h
 | o::r,acc,l,h=>by
  simp only[lS];refine qs ops r _ (λj=>by have:=l (j+1);simp only[E7]at this;rw[this];simp;congr 1;omega) λj i a=>?_;rcases Hl j acc.length with f | d | q
  ·rw[th f]at a;exact h j i a
  ·subst d;rw[tz]at a;have p:ops[acc.length]?=some o:=by have:=l 0;simpa using this.symm
   rcases tQ acc _ _ _ a with b | ⟨e,n,g,b⟩
   ·simp at b
   ·intro D k c;have m:=k acc.length o e p c n g;rcases b with rfl | b
    ·exact m
    ·exact h e.on i b D k m
  ·rw[Du (by simp;omega)]at a;simp at a
def km:∀(l:List Oper) (i:Nat),rX i l=true->∀(j:Nat) (o:Oper) (e:Edge),l[j]?=some o->e∈o.after.toList->Region.binds .any e=true->e.on<i+j
 | [],_,_,_,_,_,h,_,_=>by simp at h
 | o::l,i,h,j,d,e,a,c,b=>by
  simp only[rX,aA,bO]at h;cases j with
  | zero=>
   simp only[lw,ar]at a;subst a;have:=h.1 e c;simp only[b,dT,tq]at this;exact aM this
  | succ j=>have:=km l (i+1) h.2 j d e (by simpa using a) c b;omega
def sZ{ops:Array Oper}{o:Oper}{a:Nat}:∀(l:List Oper) (i:Nat),uF ops o a i l=true->∀(j:Nat) (p:Oper),l[j]?=some p->a.testBit (i+j)=true\/p.apart ops o=true
 | [],_,_,_,_,h=>by simp at h
 | q::l,i,h,j,p,b=>by
  simp only[uF,aA,iG]at h;cases j with
  | zero=>simp only[lw,ar]at b;subst b;exact h.1
  | succ j=>have:=sZ l (i+1) h.2 j p (by simpa using b);rwa[show i+1+j=i+(j+1)by omega]at this
def nP{ops:Array Oper}{masks:List Nat}:∀(l a:List Oper),uB ops masks a.length a l=true->∀(i j:Nat) (x y:Oper),i<a.length+j->(a++l)[i]?=some x->l[j]?=some y->
  (getN masks (a.length+j)).testBit i=true\/x.apart ops y=true
 | [],_,_,_,_,_,_,_,_,h=>by simp at h
 | o::l,a,h,i,j,x,y,hi,hx,hy=>by
  simp only[uB,aA]at h;cases j with
  | zero=>
   simp only[lw,ar]at hy;subst hy;have:=sZ a 0 h.1 i x (by rw[om (by simpa using hi)]at hx;exact hx);simpa using this
  | succ j=>
   have b:=h.2;rw[show a.length+1=(a++[o]).length by simp]at b;have:=nP l (a++[o]) b i j x y (by simp;omega) (by simpa using hx) (by simpa using hy);rwa[show(a++[o]).length+j=a.length+(j+1)by simp;omega]at this
def sc{masks:List Nat}:∀{tr:List TE},qN masks tr=true->∀x∈tr,∀y∈tr,x.i<y.i->zh masks x y=true\/zh masks y x=true
 | [],_,x,hx,_,_,_=>by cases hx
 | z::l,h,x,hx,y,hy,c=>by
  simp only[qN,aA,bO]at h;rcases cN.1 hx with b | b
  ·subst b;rcases cN.1 hy with a | a
   ·subst a;omega
   ·exact .inl (h.1 y a)
  ·rcases cN.1 hy with a | a
   ·subst a;exact .inr (h.1 x b)
   ·exact sc h.2 x b y a c
def zl{x y:TE}(h:Uu x y=false):(∀b∈x.ws,b∉y.rd/\b∉y.ws)/\∀b∈x.rd,b∉y.ws:=by
 simp only[Uu,qZ,sY,iG,not_or,List.contains_iff_mem]at h;exact⟨λb a=>h.1 b a,λb a=>h.2 b a⟩
def DY{masks:List Nat}{x y:TE}(h:zh masks x y=true\/zh masks y x=true)(e:x.i<y.i):
  (getN masks y.i).testBit x.i=true\/((∀b∈x.ws,b∉y.rd/\b∉y.ws)/\∀b∈x.rd,b∉y.ws):=by
 have j:Nat.blt x.i y.i=true:=cr e;have k:Nat.blt y.i x.i=false:=by
  cases f:Nat.blt y.i x.i with
  | false=>rfl
  | true=>have:y.i<x.i:=aM f;omega
 rcases h with h | h
 ·simp only[zh,j,aj,iG,kv]at h;exact h.imp id zl
 ·simp only[zh,k,ah,iG,kv]at h;refine h.imp id λh=>?_;obtain⟨a,b⟩:=zl h;exact⟨λc hc=>⟨λg=>b c g hc,λd=>(a c d).2 hc⟩,λc hc d=>(a c d).1 hc⟩
def vg:∀(ops:List Oper) {T:List (Nat×Option V)} (t:Nat) (v:V),look (KW ops T) t=some (some v)->(∀o∈ops,o.dst≠some t)/\look T t=some (some v)
 | [],T,t,v,h=>⟨by simp,h⟩
 | o::l,T,t,v,h=>by
  simp only[KW]at h;split at h
  ·rename_i d b;rw[aV]at h;split at h
   ·cases h
   ·rename_i c;obtain⟨a,f⟩:=vg l t v h;refine⟨λx hx=>?_,f⟩;rcases cN.1 hx with rfl | hx
    ·rw[b];intro e;cases e;exact c rfl
    ·exact a x hx
  ·rename_i b;obtain⟨a,f⟩:=vg l t v h;refine⟨λx hx=>?_,f⟩;rcases cN.1 hx with rfl | hx
   ·rw[b];intro e;cases e
   ·exact a x hx
def J9{α:Type}{E:List Ent}(hE:∀x∈E,fQ P x){n:Nat}{ops:List Oper}{s:St}{k:Ex->St->Option α}{z:α}(h:G1 P E n ops s k=some z)(id:Nat):
  SemC P n (.region id ops.toArray true) s λex s'=>k ex s'=some z:=by
 intro ι0 w0 ι a w hI;unfold G1 at h;split at h
 case h_2=>cases h
 rename_i hok;simp only[aA,Ic]at hok;obtain⟨⟨hb1,hb2,_⟩,S⟩:=hok;have g:=qs ops ops [] (by simp) (λj i u=>by simp[getN]at u);have hI1:Inv n ι0 w0 ι { s with nb:=s.nb+8*ops.length } a { w with drawn:=w.drawn+1 }:=by
  have d:=hI.drawn (w.drawn+1);exact⟨d.size,d.defers,d.tmps,⟨d.mem.inj,λb r u=>by have:=d.mem.low b r u;simp only;omega,d.mem.dom,d.mem.blk⟩,d.ext,d.new,d.fr,d.low,d.fz,d.gl⟩
 have K:∀i,Dn (Array.replicate ops.toArray.size false) i=false:=by
  intro i;unfold Dn;simp only[rj,Xb];split<;>rfl
 have hno:∀(l:List Rec) (i:Nat) (D:Nat->Bool) (s:St),(∀j,D j=false)->appD i l D s=s:=by
  intro l
  induction l with
  | nil=>intros;rfl
  | cons r l ih=>intro i D s hD;simp only[appD,hD i,bU,aG];exact ih _ D s hD
 have C:∀(trf:List TE) (x y:Rec) (i j:Nat),qN (lS ops []) (trf.filter λx=>!(x.rd.isEmpty&&x.ws.isEmpty))=true->i<j->((⟨0+i,x.rd,keys x.wr⟩:TE)∈trf\/(x.rd=[]/\x.wr=[]))->((⟨0+j,y.rd,keys y.wr⟩:TE)∈trf\/(y.rd=[]/\y.wr=[]))->
   Must ops i j\/((∀b∈keys x.wr,b∉y.rd/\b∉keys y.wr)/\∀b∈x.rd,b∉keys y.wr):=by
  intro trf x y i j L B hx hy;rcases hx with hxm | ⟨hx1,hx2⟩
  ·rcases hy with hym | ⟨hy1,hy2⟩
   ·simp only[cU]at hxm hym;by_cases he1:(x.rd=[]/\x.wr=[])
    ·exact .inr (by simp[he1.1,he1.2,keys])
    ·by_cases he2:(y.rd=[]/\y.wr=[])
     ·exact .inr (by simp[he2.1,he2.2,keys])
     ·have m1:(⟨i,x.rd,keys x.wr⟩:TE)∈trf.filter λx=>!(x.rd.isEmpty&&x.ws.isEmpty):=by
       refine mf.2 ⟨hxm,?_⟩;simp only[keys,kv,Jd,Dk];rcases HH (x.rd=[])with h | h
       ·exact .inr (by simpa usingλhw=>he1 ⟨h,hw⟩)
       ·exact .inl h
      have m2:(⟨j,y.rd,keys y.wr⟩:TE)∈trf.filter λx=>!(x.rd.isEmpty&&x.ws.isEmpty):=by
       refine mf.2 ⟨hym,?_⟩;simp only[keys,kv,Jd,Dk];rcases HH (y.rd=[])with h | h
       ·exact .inr (by simpa usingλhw=>he2 ⟨h,hw⟩)
       ·exact .inl h
      have:=DY (sc L _ m1 _ m2 B) B;exact this.imp (g j i) λh=>h
   ·exact .inr (by simp[hy1,hy2,keys])
  ·exact .inr (by simp[hx1,hx2,keys])
 rcases Cj hE ops 0 _ [] (by simp) h with⟨recs,O,trf,g1,R,Q,_,U,g6⟩ | ⟨p,po,recs,O,sp,trf,v,wr,rp,g1,g0,gr,gd,gw,rfl,R,Q,_,g7,U,g6⟩
 ·split at R
  case h_2=>cases R
  rename_i L;have F:DrawFacts P n s.nb ops recs { s with nb:=s.nb+8*ops.length } (λ_=>True):=by
   refine⟨g1,rfl,λj o r N W=>?_,λj o e N he u=>?_,λi j x y B hx hy=>?_,λi j x y B hx hy=>?_⟩
   ·obtain⟨p1,p2⟩:=g6 j o r N W;simp only[cU]at p2;have e:=rB recs 0 j { s with nb:=s.nb+8*ops.length };simp only[cU]at e;exact⟨λt V=>p1▸V,λ_=>p2.eqv e⟩
   ·have:=km ops 0 hb1 j o e N he u;omega
   ·have:=nP (masks:=lS ops []) ops [] hb2 i j x y (by simpa using B) (by simpa using hx) hy;simp only[aX,cU]at this;exact this.imp (g j i) λh=>h
   ·exact C trf x y i j L B (U i x hx) (U j y hy)
  refine wp_region_any S (Eh (kk:=0) F (λ_ _ _=>trivial) (λM a' w' f=>⟨.normal,O,M,rfl,f.eqv Q.symm,R⟩) _ _ ι a _ (by simp) (λj Y=>by omega) (λj o e _ G=>by rw[K j]at G;cases G) (by rw[hno recs 0 _ _ K];exact hI1) (λi _ _ b u _=>?_) ?_)
  ·exact hI.fresh b (by omega)
  ·have:=Dl (λi=>!Dn (Array.replicate ops.toArray.size false) i) (List.range ops.length);simpa using this
 ·split at R
  case h_2=>cases R
  rename_i hpk;simp only[aA,V5]at hpk;obtain⟨hw,L⟩:=hpk;simp only[cU]at R g7 hw;have B:p<ops.length:=by
   rcases aN p ops.length with h' | h'
   ·exact h'
   ·rw[gh h']at g0;cases g0
  have A:∀i r,recs[i]?=some r->i≠p->(i<p/\Must ops i p)\/r.wr=[]:=by
   intro i r W I;rcases U i r W I with hx | hx
   ·have:=(bO.1 hw) _ hx;simp only[cU,iG,aA]at this;rcases this with h | h
    ·right;simpa[keys]using h
    ·exact .inl ⟨aM h.1,g p i h.2⟩
   ·exact .inr hx.2
  have g5':∀(j:Nat) (r:Rec),recs[j]?=some r->j≠p->(⟨0+j,r.rd,keys r.wr⟩:TE)∈trf\/(r.rd=[]/\r.wr=[]):=U;have F:DrawFacts P n s.nb ops recs { s with nb:=s.nb+8*ops.length } (λj=>j<p\/(p<j/\(getN (lS ops []) (0+j)).testBit (0+p)=false)):=by
   refine⟨g1,rfl,λj o r N W=>?_,λj o e N he u=>?_,λi j x y X hx hy=>?_,λi j x y X hx hy=>?_⟩
   ·obtain⟨p1,p2⟩:=g6 j o r N W;have e:=rB recs 0 j { s with nb:=s.nb+8*ops.length };simp only[cU]at e p2 ⊢;exact⟨λt V=>p1▸V,λhc=>(p2 hc).eqv e⟩
   ·have:=km ops 0 hb1 j o e N he u;omega
   ·have:=nP (masks:=lS ops []) ops [] hb2 i j x y (by simpa using X) (by simpa using hx) hy;simp only[aX,cU]at this;exact this.imp (g j i) λh=>h
   ·by_cases I:i=p
    ·
     subst I;rw[gr]at hx;cases hx;rcases A j y hy (by omega)with⟨h,_⟩ | h
     ·omega
     ·exact .inr (by simp[gw,h,keys])
    ·by_cases J:j=p
     ·subst J;rw[gr]at hy;cases hy;rcases A i x hx I with⟨_,h⟩ | h
      ·exact .inl h
      ·exact .inr (by simp[gw,h,keys])
     ·exact C trf x y i j L X (U i x hx I) (U j y hy J)
  have c:Eqv ((recs.take p).foldl St.put { s with nb:=s.nb+8*ops.length }) (appD 0 recs (λm=>decide (m<p)) { s with nb:=s.nb+8*ops.length }):=by
   have e:=rB recs 0 p { s with nb:=s.nb+8*ops.length };simpa using e
  have Z:∀j,j<ops.length->j≠p->(j<p\/(p<j/\(getN (lS ops []) (0+j)).testBit (0+p)=false))\/Must ops p j:=by
   intro j _ hne;cases u:(getN (lS ops []) (0+j)).testBit (0+p)with
   | false=>exact .inl ((Nat.lt_or_gt_of_ne hne).imp (λh=>h) λh=>⟨h,rfl⟩)
   | true=>simp only[cU]at u;exact .inr (g j p u)
  refine wp_region_any S (RB F g0 gr (g7.eqv c) Z (λD hD hd hn M x a' w' hv f=>⟨.pan v,_,M,⟨x,rfl,hv⟩,?inv,R⟩) _ _ ι a _ (by simp) (λj o e _ G=>by rw[K j]at G;cases G) (K p) (by rw[hno _ 0 _ _ K];exact hI1) (λi _ _ b u _=>?fresh) ?len)
  case inv=>
   have hH:∀b,look O.H b=look (appD 0 recs D { s with nb:=s.nb+8*ops.length }).H b:=by
    intro b;rw[Q.H,c.H,zb,zb];refine qC _ 0 _ _ b _ λj r Y u=>?_;simp only[cU];by_cases J:j=p
    ·subst J;rw[gr]at Y;cases Y;rw[gw]at u;simp[keys]at u
    ·rcases A j r Y J with⟨d,hm⟩ | hm
     ·rw[hm.in hD g0 hd (by omega)];simp[d]
     ·rw[hm]at u;simp[keys]at u
   have hT:∀t v,look (KW ops s.T) t=some (some v)->look (appD 0 recs D { s with nb:=s.nb+8*ops.length }).T t=some (some v):=by
    intro t v V;obtain⟨d,h2⟩:=vg ops t v V;rw[An,zS _ 0 D t _ λj r Y W=>?_]
    ·exact h2
    ·exfalso;obtain⟨o,N⟩:=xQ F Y;exact d o (fh N) ((F.loc j o r N Y).1 t W)
   refine⟨f.size,f.defers,λt v V=>f.tmps t v (hT t v V),⟨f.mem.inj,λb r u=>?_,f.mem.dom,λb blk hl hdd=>f.mem.blk b blk ?_ hdd⟩,?_,f.new,?_,λb r u=>?_,?_,?_⟩
   ·have:=f.mem.low b r u;have e:=Q.nb.trans c.nb;rw[mz]at e;show b<O.nb;rw[e];exact this
   ·show look (wr++(appD 0 recs D { s with nb:=s.nb+8*ops.length }).H) b=_;rw[qQ,<-hH b,<-qQ];exact hl
   ·have e:=Q.rb.trans c.rb;rw[yJ]at e;have d:=f.ext;show ∀b q,ι0 b=some q->M b=some q\/O.rb<=b;rw[e];simp only[St.app,yJ]at d;exact d
   ·have e:=Q.ro.trans c.ro;rw[jF]at e;have d:=f.fr;show Fr (roI ι0 O.ro) w0.w w';rw[e];simp only[St.app,jF]at d;exact d
   ·have e:=Q.lo.trans c.lo;rw[yN]at e;have d:=f.low b r u;show b<O.lo;rw[e];simp only[St.app,yN]at d;exact d
   ·have e:=Q.ro.trans c.ro;rw[jF]at e;have d:=f.fz;show ∀b q,M b=some (some q)->q.fz=true->b<O.ro;rw[e];simp only[St.app,jF]at d;exact d
   ·have e:=Q.ro.trans c.ro;rw[jF]at e;have d:=f.gl;show GL (roI ι0 O.ro) w0.w;rw[e];simp only[St.app,jF]at d;exact d
  case fresh=>exact hI.fresh b (by omega)
  case len=>
   have:=Dl (λi=>!Dn (Array.replicate ops.toArray.size false) i) (List.range ops.length);simpa using this
end Go.Abs
