
import Derived.Test.YtadejcglcffgbaaGreatDoorAbsM
set_option linter.unusedSimpArgs false
set_option linter.unusedVariables false
set_option linter.defProp false
namespace Go.Abs
variable {P:Program}
structure Rec where
 dst:Option Nat
 val:Option V
 wr:List (Nat×Blk)
 rd:List Nat
def St.put(s:St)(r:Rec):St:=s.app r.dst r.val r.wr s.nb
def keys(wr:List (Nat×Blk)):List Nat:=wr.map (·.1)
def qo{α:Type}(l m:List (Nat×α))(n:Nat):look (l++m) n=(look l n).or (look m n):=by
 induction l with
 | nil=>rfl
 | cons x l ih=>
  obtain⟨k,v⟩:=x;rw[fi,aS,aS];split
  ·rfl
  ·exact ih
def rc{α:Type}{l:List (Nat×α)}{n:Nat}(h:n∉l.map (·.1)):look l n=none:=by
 induction l with
 | nil=>rfl
 | cons x l ih=>
  obtain⟨k,v⟩:=x;simp only[gN,cb,not_or]at h;rw[aS,ab (λe=>h.1 e.symm)];exact ih h.2
def sc{α:Type}{l:List (Nat×α)}{n:Nat}(h:n∈l.map (·.1)):∃v,look l n=some v:=by
 induction l with
 | nil=>simp at h
 | cons x l ih=>
  obtain⟨k,v⟩:=x;rw[aS];split
  ·exact⟨v,rfl⟩
  ·rename_i a;simp only[gN,cb]at h;exact ih (h.resolve_left λe=>a e.symm)
def Ql(s:St)(r:Rec)(t:Nat):look (s.put r).T t=if r.dst=some t then some r.val else look s.T t:=by
 unfold St.put St.app;cases a:r.dst with
 | none=>simp
 | some d=>
  simp only[aS];by_cases h:d=t
  ·subst h;simp
  ·simp[h]
def Rl(s:St)(r:Rec)(b:Nat):look (s.put r).H b=(look r.wr b).or (look s.H b):=qo _ _ _
def V5(s:St)(r:Rec):(s.put r).nb=s.nb:=rfl
structure Eqv(s s':St):Prop where
 T:∀t,look s.T t=look s'.T t
 H:∀b,look s.H b=look s'.H b
 nb:s.nb=s'.nb
 lo:s.lo=s'.lo
 ro:s.ro=s'.ro
 rb:s.rb=s'.rb
def Eqv.refl(s:St):Eqv s s:=⟨λ_=>rfl,λ_=>rfl,rfl,rfl,rfl,rfl⟩
def Eqv.symm{s s':St}(h:Eqv s s'):Eqv s' s:=⟨λt=>(h.T t).symm,λb=>(h.H b).symm,h.nb.symm,h.lo.symm,h.ro.symm,h.rb.symm⟩
def Eqv.trans{a b c:St}(h:Eqv a b)(k:Eqv b c):Eqv a c:=⟨λt=>(h.T t).trans (k.T t),λt=>(h.H t).trans (k.H t),h.nb.trans k.nb,h.lo.trans k.lo,h.ro.trans k.ro,h.rb.trans k.rb⟩
def Eqv.put{s s':St}(h:Eqv s s')(r:Rec):Eqv (s.put r) (s'.put r):=
 ⟨λt=>by rw[Ql,Ql,h.T],λb=>by rw[Rl,Rl,h.H],h.nb,h.lo,h.ro,h.rb⟩
def Eqv.puts:∀(l:List Rec) {s s':St},Eqv s s'->Eqv (l.foldl St.put s) (l.foldl St.put s')
 | [],_,_,h=>h
 | r::l,_,_,h=>Eqv.puts l (h.put r)
def Inv.eqv{n:Nat}{ι0 ι:Inj}{w0:Base}{s s':St}{a:Act}{w:World}(h:Inv n ι0 w0 ι s a w)(e:Eqv s s'):Inv n ι0 w0 ι s' a w:=
 ⟨h.size,h.defers,λt v F=>h.tmps t v (by rw[e.T];exact F),⟨h.mem.inj,λb r C=>by rw[<-e.nb];exact h.mem.low b r C,h.mem.dom,λb blk G E=>h.mem.blk b blk (by rw[e.H];exact G) E⟩,by rw[<-e.rb];exact h.ext,h.new,by rw[<-e.ro];exact h.fr,λb r C=>by rw[<-e.lo];exact h.low b r C,by rw[<-e.ro];exact h.fz,by rw[<-e.ro];exact h.gl⟩
def appD:Nat->List Rec->(Nat->Bool)->St->St
 | _,[],_,s=>s
 | i,r::l,D,s=>appD (i+1) l D (if D i=true then s.put r else s)
def yx:Nat->List Rec->(Nat->Bool)->Nat->Option (Option V)->Option (Option V)
 | _,[],_,_,x=>x
 | i,r::l,D,t,x=>yx (i+1) l D t (if D i=true/\r.dst=some t then some r.val else x)
def xE:Nat->List Rec->(Nat->Bool)->Nat->Option Blk->Option Blk
 | _,[],_,_,x=>x
 | i,r::l,D,b,x=>xE (i+1) l D b (if D i=true then(look r.wr b).or x else x)
def Az:∀(l:List Rec) (i:Nat) (D:Nat->Bool) (s:St) (t:Nat),look (appD i l D s).T t=yx i l D t (look s.T t)
 | [],_,_,_,_=>rfl
 | r::l,i,D,s,t=>by
  simp only[appD,yx,Az l];congr 1;cases D i
  ·simp
  ·simp only[kz,aN];rw[Ql]
def yC:∀(l:List Rec) (i:Nat) (D:Nat->Bool) (s:St) (b:Nat),look (appD i l D s).H b=xE i l D b (look s.H b)
 | [],_,_,_,_=>rfl
 | r::l,i,D,s,b=>by
  simp only[appD,xE,yC l];congr 1;cases D i
  ·simp
  ·simp only[aN];rw[Rl]
def lQ:∀(l:List Rec) (i:Nat) (D:Nat->Bool) (s:St),(appD i l D s).nb=s.nb
 | [],_,_,_=>rfl
 | r::l,i,D,s=>by
  simp only[appD,lQ l];split<;>rfl
def jq:∀(l:List Rec) (i:Nat) (D:Nat->Bool) (s:St),(appD i l D s).ro=s.ro
 | [],_,_,_=>rfl
 | r::l,i,D,s=>by
  simp only[appD,jq l];split<;>rfl
def wM:∀(l:List Rec) (i:Nat) (D:Nat->Bool) (s:St),(appD i l D s).lo=s.lo
 | [],_,_,_=>rfl
 | r::l,i,D,s=>by
  simp only[appD,wM l];split<;>rfl
def yc:∀(l:List Rec) (i:Nat) (D:Nat->Bool) (s:St),(appD i l D s).rb=s.rb
 | [],_,_,_=>rfl
 | r::l,i,D,s=>by
  simp only[appD,yc l];split<;>rfl
def tC:∀(l:List Rec) (i:Nat) (D a:Nat->Bool) (t:Nat) (x:Option (Option V)),(∀j r,l[j]?=some r->r.dst=some t->D (i+j)=a (i+j))->yx i l D t x=yx i l a t x
 | [],_,_,_,_,_,_=>rfl
 | r::l,i,D,a,t,x,h=>by
  simp only[yx];have c:=h 0 r (by simp);simp only[dK]at c;rw[tC l (i+1) D a t _ λj d e f=>by have:=h (j+1) d (by simpa using e) f;rwa[show i+(j+1)=i+1+j by omega]at this];congr 1;by_cases b:r.dst=some t
  ·rw[c b]
  ·simp[b]
def Au(l:List Rec)(i:Nat)(D:Nat->Bool)(t:Nat)(x:Option (Option V))(h:∀j r,l[j]?=some r->r.dst=some t->D (i+j)=false):yx i l D t x=x:=by
 induction l generalizing i x with
 | nil=>rfl
 | cons r l ih=>
  simp only[yx];have b:=h 0 r (by simp);simp only[dK]at b;have:¬(D i=true/\r.dst=some t):=λ⟨a,c⟩=>by rw[b c]at a;cases a
  rw[ab this];exact ih (i+1) x λj d e f=>by have:=h (j+1) d (by simpa using e) f;rwa[show i+(j+1)=i+1+j by omega]at this
def Hw:∀(l:List Rec) (i j:Nat) (D:Nat->Bool) (t:Nat) (x:Option (Option V)) (r:Rec),l[j]?=some r->D (i+j)=true->r.dst=some t->
  (∀k b,j<k->l[k]?=some b->b.dst=some t->D (i+k)=false)->yx i l D t x=some r.val
 | [],_,_,_,_,_,_,h,_,_,_=>by simp at h
 | r0::l,i,0,D,t,x,r,h,c,d,a=>by
  simp only[lF,aq]at h;subst h;simp only[dK]at c;simp only[yx];rw[ae ⟨c,d⟩];exact Au l (i+1) D t _ λk b f e=>by have:=a (k+1) b (by omega) (by simpa using f) e;rwa[show i+(k+1)=i+1+k by omega]at this
 | r0::l,i,j+1,D,t,x,r,h,c,d,a=>by
  simp only[yx]
  exact Hw l (i+1) j D t _ r (by simpa using h) (by rwa[show i+1+j=i+(j+1)by omega]) d λk b f g e=>by
   have:=a (k+1) b (by omega) (by simpa using g) e;rwa[show i+(k+1)=i+1+k by omega]at this
def pZ:∀(l:List Rec) (i:Nat) (D a:Nat->Bool) (b:Nat) (x:Option Blk),(∀j r,l[j]?=some r->b∈keys r.wr->D (i+j)=a (i+j))->xE i l D b x=xE i l a b x
 | [],_,_,_,_,_,_=>rfl
 | r::l,i,D,a,b,x,h=>by
  simp only[xE];have d:=h 0 r (by simp);simp only[dK]at d;rw[pZ l (i+1) D a b _ λj e f g=>by have:=h (j+1) e (by simpa using f) g;rwa[show i+(j+1)=i+1+j by omega]at this];congr 1;by_cases c:b∈keys r.wr
  ·rw[d c]
  ·simp[rc c]
def Ky(l:List Rec)(i:Nat)(D:Nat->Bool)(b:Nat)(x:Option Blk)(h:∀j r,l[j]?=some r->b∈keys r.wr->D (i+j)=false):xE i l D b x=x:=by
 induction l generalizing i x with
 | nil=>rfl
 | cons r l ih=>
  simp only[xE];have c:=h 0 r (by simp);simp only[dK]at c;have:(if D i=true then(look r.wr b).or x else x)=x:=by
   by_cases a:b∈keys r.wr
   ·rw[c a];simp
   ·rw[rc a];simp
  rw[this];exact ih (i+1) x λj d e f=>by have:=h (j+1) d (by simpa using e) f;rwa[show i+(j+1)=i+1+j by omega]at this
def Ji:∀(l:List Rec) (i j:Nat) (D:Nat->Bool) (b:Nat) (x:Option Blk) (r:Rec),l[j]?=some r->D (i+j)=true->b∈keys r.wr->
  (∀k c,j<k->l[k]?=some c->b∈keys c.wr->D (i+k)=false)->xE i l D b x=look r.wr b
 | [],_,_,_,_,_,_,h,_,_,_=>by simp at h
 | r0::l,i,0,D,b,x,r,h,d,e,a=>by
  simp only[lF,aq]at h;subst h;simp only[dK]at d;simp only[xE];obtain⟨v,m⟩:=sc e;rw[ae d,m];exact Ky l (i+1) D b _ λk c g f=>by have:=a (k+1) c (by omega) (by simpa using g) f;rwa[show i+(k+1)=i+1+k by omega]at this
 | r0::l,i,j+1,D,b,x,r,h,d,e,a=>by
  simp only[xE]
  exact Ji l (i+1) j D b _ r (by simpa using h) (by rwa[show i+1+j=i+(j+1)by omega]) e λk c g n f=>by
   have:=a (k+1) c (by omega) (by simpa using n) f;rwa[show i+(k+1)=i+1+k by omega]at this
def rr:∀(l:List Rec) (i j:Nat) (s:St),Eqv ((l.take j).foldl St.put s) (appD i l (λm=>decide (m<i+j)) s)
 | [],i,j,s=>by simp[appD];exact Eqv.refl s
 | r::l,i,0,s=>by
  have:∀(l:List Rec) (i a:Nat) (s:St),i<=a->appD a l (λm=>decide (m<i)) s=s:=by
   intro l
   induction l with
   | nil=>intros;rfl
   | cons r l ih=>intro i a s h;simp only[appD,show¬a<i by omega,og,bQ,aF];exact ih i (a+1) s (by omega)
  simp only[mV,Jg,dK];rw[this (r::l) i i s (aU _)];exact Eqv.refl s
 | r::l,i,j+1,s=>by
  simp only[mU,vD,appD,show i<i+(j+1)by omega,o6,aN];have:=rr l (i+1) j (s.put r);rwa[show(λm=>decide (m<i+1+j))=λm=>decide (m<i+(j+1))by funext m;simp only[uR];omega]at this
def BI:∀(l:List Rec) (i:Nat) (D:Nat->Bool) (s:St),(∀j,j<l.length->D (i+j)=true)->appD i l D s=l.foldl St.put s
 | [],_,_,_,_=>rfl
 | r::l,i,D,s,h=>by
  have a:=h 0 (by simp);simp only[dK]at a;simp only[appD,a,aN,vD];exact BI l (i+1) D _ λj b=>by have:=h (j+1) (by simpa using b);rwa[show i+(j+1)=i+1+j by omega]at this
def uX(P:Program)(n nb0:Nat)(ops:List Oper)(i:Nat)(o:Oper)(r:Rec)(base:St):Prop:=
 ∀s':St,(∀t∈o.looksAt ops.toArray,look s'.T t=look base.T t)->(∀b∈r.rd,look s'.H b=look base.H b)->s'.nb=base.nb->s'.ro=base.ro->
  ∀(ι0:Inj) (w0:Base) (ι:Inj) (a:Act) (w:World),Inv n ι0 w0 ι s' a w->(∀b,nb0+8*i<=b->b<nb0+8*i+8->ι b=none)->∀(K:Act->World->Prop) (Q:Exit->Act->World->Prop),
   (∀c d w',(∀b,(b<nb0+8*i\/nb0+8*i+8<=b)->c b=ι b)->Inv n ι0 w0 c (s'.put r) d w'->K d w')->
   if Region.wanted o (yielded ops.toArray a.tmps)then o.wp P a w K Q else K (a.put o.dst undef) w
def Ab(P:Program)(n nb0:Nat)(ops:List Oper)(i:Nat)(o:Oper)(v:V)(wr:List (Nat×Blk))(rd:List Nat)(base:St):Prop:=
 ∀s':St,(∀t∈o.looksAt ops.toArray,look s'.T t=look base.T t)->(∀b∈rd,look s'.H b=look base.H b)->s'.nb=base.nb->s'.ro=base.ro->
  ∀(ι0:Inj) (w0:Base) (ι:Inj) (a:Act) (w:World),Inv n ι0 w0 ι s' a w->(∀b,nb0+8*i<=b->b<nb0+8*i+8->ι b=none)->∀(K:Act->World->Prop) (Q:Exit->Act->World->Prop),
   (∀c x w',VR c v x->Inv n ι0 w0 c (s'.app none none wr s'.nb) a w'->Q (.panic [{ v:=x,recovered:=false }]) a w')->
   Region.wanted o (yielded ops.toArray a.tmps)=true/\o.wp P a w K Q
def Ab.eqv{n nb0:Nat}{ops:List Oper}{i:Nat}{o:Oper}{v:V}{wr:List (Nat×Blk)}{rd:List Nat}{base C:St}(h:Ab P n nb0 ops i o v wr rd base)(e:Eqv base C):Ab P n nb0 ops i o v wr rd C:=
 λs' G F O J=>h s' (λt Q=>by rw[G t Q,e.T]) (λb E=>by rw[F b E,e.H]) (by rw[O,e.nb]) (by rw[J,e.ro])
def uX.eqv{n nb0:Nat}{ops:List Oper}{i:Nat}{o:Oper}{r:Rec}{base C:St}(h:uX P n nb0 ops i o r base)(e:Eqv base C):uX P n nb0 ops i o r C:=
 λs' G F O J=>h s' (λt Q=>by rw[G t Q,e.T]) (λb E=>by rw[F b E,e.H]) (by rw[O,e.nb]) (by rw[J,e.ro])
def zY{α:Type}{ops:List Oper}{o:Oper}{s:St}{k:Bool->St->Option α}{z:α}(h:wL ops o s k=some z):
  ∃c r,k c r=some z/\Eqv r s/\∀s':St,(∀t∈o.looksAt ops.toArray,look s'.T t=look s.T t)->∀(n:Nat) (ι0 ι:Inj) (w0:Base) (a:Act) (w:World),Inv n ι0 w0 ι s' a w->
   Region.wanted o (yielded ops.toArray a.tmps)=c:=by
 unfold wL at h;split at h
 ·rename_i l;exact⟨true,s,h,Eqv.refl s,λ_ _ _ _ _ _ _ _ _=>by simp[Region.wanted,l]⟩
 ·rename_i j c l;split at h
  case h_2=>cases h
  rename_i d i;have f:d∈o.looksAt ops.toArray:=by
   unfold Oper.looksAt;unfold gtmp at i;split at i
   ·rename_i u q;simp[l,q,i]
   ·cases i
  have again:∀x,look s.T d=some (some (.b x))->Eqv { s with T:=(d,some (V.b x))::s.T } s:=by
   intro x hx;refine⟨λt=>?_,λ_=>rfl,rfl,rfl,rfl,rfl⟩;show look ((d,some (V.b x))::s.T) t=look s.T t;rw[aS];split
   ·rename_i e;subst e;exact hx.symm
   ·rfl
  split at h
  ·rename_i x hx;cases x
   ·refine⟨!c,_,h,again _ hx,λs' hs n ι0 ι w0 a w p=>?_⟩;obtain⟨y,m,g⟩:=p.tmps d _ (by rw[hs d f];exact hx);simp only[VR]at g;subst g;have hy:=sG i a.tmps;rw[m]at hy;cases c<;>simp[Region.wanted,l,hy]
   ·refine⟨c,_,h,again _ hx,λs' hs n ι0 ι w0 a w p=>?_⟩;obtain⟨y,m,g⟩:=p.tmps d _ (by rw[hs d f];exact hx);simp only[VR]at g;subst g;have hy:=sG i a.tmps;rw[m]at hy;cases c<;>simp[Region.wanted,l,hy]
  ·rename_i hx;refine⟨false,s,h,Eqv.refl s,λs' hs n ι0 ι w0 a w p=>?_⟩;obtain⟨y,m,g⟩:=p.tmps d _ (by rw[hs d f];exact hx);simp only[VR]at g;obtain⟨v,rfl,_⟩:=g;have hy:=sG i a.tmps;rw[m]at hy;simp[Region.wanted,l,hy]
  ·cases h
def xX{ops:Array Oper}{o:Oper}{s s':St}(h:∀t∈o.looksAt ops,look s'.T t=look s.T t):∀x∈o.op.operands.toList,opd s'.T x=opd s.T x:=by
 intro x hx;cases x with
 | tmp t=>
  have:=h t (by
   unfold Oper.looksAt;simp only[kQ,List.mem_filterMap];exact .inl ⟨.tmp t,hx,rfl⟩)
  simp only[opd,this]
 | _=>rfl
def L8{α:Type}{E:List Ent}(hE:∀x∈E,fC P x){n nb0:Nat}{ops:List Oper}{masks:List Nat}{p:Nat}{k:List TE->Option α}{z:α}:∀(l:List Oper) (i:Nat) (s:St) (tr:List TE),
  nb0+8*(i+l.length)<=s.nb->runB P E n nb0 ops masks p i l s tr k=some z->
  ∃(recs:List Rec) (trf:List TE),recs.length=l.length/\k trf=some z/\(∀x∈tr,x∈trf)/\
   (∀j r,recs[j]?=some r->(⟨i+j,r.rd,keys r.wr⟩:TE)∈trf\/(r.rd=[]/\r.wr=[]))/\
   ∀(j:Nat) (o:Oper) (r:Rec),l[j]?=some o->recs[j]?=some r->r.dst=o.dst/\((getN masks (i+j)).testBit p=false->uX P n nb0 ops (i+j) o r ((recs.take j).foldl St.put s))
 | [],i,s,tr,G,h=>⟨[],tr,rfl,h,λ_ h=>h,λj r h=>by simp at h,λj o r h=>by simp at h⟩
 | o::l,i,s,tr,G,h=>by
  simp only[aG]at G;simp only[runB]at h;have more:∀(e:Rec) (c:List TE) (I:St),e.dst=o.dst->((getN masks i).testBit p=false->uX P n nb0 ops i o e s)->Eqv I (s.put e)->s.nb<=I.nb->(∀x∈tr,x∈c)->((⟨i,e.rd,keys e.wr⟩:TE)∈c\/(e.rd=[]/\e.wr=[]))->
    runB P E n nb0 ops masks p (i+1) l I c k=some z->∃(recs:List Rec) (trf:List TE),recs.length=(o::l).length/\k trf=some z/\(∀x∈tr,x∈trf)/\
   (∀j r,recs[j]?=some r->(⟨i+j,r.rd,keys r.wr⟩:TE)∈trf\/(r.rd=[]/\r.wr=[]))/\
   ∀(j:Nat) (C:Oper) (r:Rec),(o::l)[j]?=some C->recs[j]?=some r->r.dst=C.dst/\((getN masks (i+j)).testBit p=false->uX P n nb0 ops (i+j) C r ((recs.take j).foldl St.put s)):=by
   intro e c I L hl e2 Z N U h;obtain⟨recs,trf,g1,g2,Y,g5,g6⟩:=L8 hE l (i+1) I c (by omega) h;refine⟨e::recs,trf,by simp[g1],g2,λx hx=>Y x (N x hx),λj r m=>?_,λj C r R m=>?_⟩
   ·cases j with
    | zero=>simp only[lF,aq]at m;subst m;exact U.imp (Y _) id
    | succ j=>have:=g5 j r (by simpa using m);rwa[show i+1+j=i+(j+1)by omega]at this
   ·cases j with
    | zero=>
     simp only[lF,aq]at R m;subst R m;exact⟨L,hl⟩
    | succ j=>
     obtain⟨p1,p2⟩:=g6 j C r (by simpa using R) (by simpa using m);rw[show i+1+j=i+(j+1)by omega]at p2;exact⟨p1,λq=>(p2 q).eqv (by simpa using Eqv.puts (recs.take j) e2)⟩
  split at h
  ·rename_i A;exact more ⟨o.dst,none,[],[]⟩ tr (s.app o.dst none [] s.nb) rfl (λq=>by rw[A]at q;cases q) (Eqv.refl _) (aU _) (λ_ h=>h) (.inr ⟨rfl,rfl⟩) h
  obtain⟨F,B,h,u,hw⟩:=zY h;have d:B.nb=s.nb:=u.nb;cases F
  ·simp only at h;split at h
   case h_2=>cases h
   rename_i L;refine more ⟨o.dst,some (.tp []),[],[]⟩ tr (B.app o.dst (some (.tp [])) [] B.nb) rfl (λ_ s' J V W X ι0 w0 ι a w D y K Q M=>?_) (u.put ⟨o.dst,some (.tp []),[],[]⟩) (xM d.symm) (λ_ h=>h) (.inr ⟨rfl,rfl⟩) h;rw[hw s' J n ι0 ι w0 a w D];simp only[bQ,aF];exact M ι _ _ (λ_ _=>rfl) (D.skip L)
  ·simp only at h;rcases Dw hE (by omega) h with⟨val,wr,rd,g,S,f⟩ | ⟨v,wr,rd,S,f⟩
   ·refine more ⟨o.dst,val,wr,rd⟩ (⟨i,rd,keys wr⟩::tr) (B.app o.dst val wr B.nb) rfl (λ_ s' J V W X ι0 w0 ι a w D y K Q M=>?_) (u.put ⟨o.dst,val,wr,rd⟩) (xM d.symm) (λx hx=>fD _ hx) (.inl (by simp[keys])) S;rw[hw s' J n ι0 ι w0 a w D];simp only[aN];refine f s' (xX λt ht=>by rw[J t ht,u.T]) (λb q=>by rw[V b q,u.H]) (by rw[W,d]) (by rw[X,u.ro]) ι0 w0 ι a w D (by simpa using y) K Q λO a' w' z1 z2=>M O a' w' (by simpa using z1) z2
   ·cases S
def BY {α:Type} {E:List Ent} (hE:∀x∈E,fC P x) {n nb0:Nat} {ops:List Oper} {masks:List Nat} {k:St->List TE->Option α} {kp:Nat->V->St->List TE->Option α} {z:α}:∀(l:List Oper) (i:Nat) (s:St) (tr:List TE),
  nb0+8*(i+l.length)<=s.nb->runD P E n nb0 ops masks kp i l s tr k=some z->
  (∃(recs:List Rec) (d:St) (trf:List TE),recs.length=l.length/\k d trf=some z/\Eqv d (recs.foldl St.put s)/\(∀x∈tr,x∈trf)/\
   (∀j r,recs[j]?=some r->(⟨i+j,r.rd,keys r.wr⟩:TE)∈trf\/(r.rd=[]/\r.wr=[]))/\
   ∀(j:Nat) (o:Oper) (r:Rec),l[j]?=some o->recs[j]?=some r->r.dst=o.dst/\uX P n nb0 ops (i+j) o r ((recs.take j).foldl St.put s))\/
  (∃(p:Nat) (op:Oper) (recs:List Rec) (d:St) (J:St) (trf:List TE) (v:V) (wr:List (Nat×Blk)) (u:Rec),recs.length=l.length/\l[p]?=some op/\recs[p]?=some u/\u.dst=op.dst/\u.wr=[]/\J=d.app none none wr d.nb/\kp (i+p) v J trf=some z/\Eqv d ((recs.take p).foldl St.put s)/\(∀x∈tr,x∈trf)/\
   Ab P n nb0 ops (i+p) op v wr u.rd ((recs.take p).foldl St.put s)/\
   (∀j r,recs[j]?=some r->j≠p->(⟨i+j,r.rd,keys r.wr⟩:TE)∈trf\/(r.rd=[]/\r.wr=[]))/\
   ∀(j:Nat) (o:Oper) (r:Rec),l[j]?=some o->recs[j]?=some r->r.dst=o.dst/\((j<p\/(p<j/\(getN masks (i+j)).testBit (i+p)=false))->uX P n nb0 ops (i+j) o r ((recs.take j).foldl St.put s)))
 | [],i,s,tr,hnb,h=>.inl ⟨[],s,tr,rfl,h,Eqv.refl s,λ_ h=>h,λj r h=>by simp at h,λj o r h=>by simp at h⟩
 | o::l,i,s,tr,hnb,h=>by
  simp only [aG] at hnb;simp only [runD] at h;obtain ⟨want,F,h,y,hw⟩:=zY h;have e:F.nb=s.nb:=y.nb;have more:∀(B:Rec) (m:List TE) (s2:St),B.dst=o.dst->uX P n nb0 ops i o B s->Eqv s2 (s.put B)->s.nb<=s2.nb->(∀x∈tr,x∈m)->((⟨i,B.rd,keys B.wr⟩:TE)∈m\/(B.rd=[]/\B.wr=[]))->
    runD P E n nb0 ops masks kp (i+1) l s2 m k=some z->
    (∃(recs:List Rec) (d:St) (trf:List TE),recs.length=(o::l).length/\k d trf=some z/\Eqv d (recs.foldl St.put s)/\(∀x∈tr,x∈trf)/\
   (∀j r,recs[j]?=some r->(⟨i+j,r.rd,keys r.wr⟩:TE)∈trf\/(r.rd=[]/\r.wr=[]))/\
   ∀(j:Nat) (f:Oper) (r:Rec),(o::l)[j]?=some f->recs[j]?=some r->r.dst=f.dst/\uX P n nb0 ops (i+j) f r ((recs.take j).foldl St.put s))\/
    (∃(p:Nat) (op:Oper) (recs:List Rec) (d:St) (J:St) (trf:List TE) (v:V) (wr:List (Nat×Blk)) (u:Rec),recs.length=(o::l).length/\(o::l)[p]?=some op/\recs[p]?=some u/\u.dst=op.dst/\u.wr=[]/\J=d.app none none wr d.nb/\kp (i+p) v J trf=some z/\Eqv d ((recs.take p).foldl St.put s)/\(∀x∈tr,x∈trf)/\
   Ab P n nb0 ops (i+p) op v wr u.rd ((recs.take p).foldl St.put s)/\
   (∀j r,recs[j]?=some r->j≠p->(⟨i+j,r.rd,keys r.wr⟩:TE)∈trf\/(r.rd=[]/\r.wr=[]))/\
   ∀(j:Nat) (f:Oper) (r:Rec),(o::l)[j]?=some f->recs[j]?=some r->r.dst=f.dst/\((j<p\/(p<j/\(getN masks (i+j)).testBit (i+p)=false))->uX P n nb0 ops (i+j) f r ((recs.take j).foldl St.put s))):=by
   intro B m s2 hd hl M hnb2 Y hte h;rcases BY hE l (i+1) s2 m (by omega) h with ⟨recs,d,trf,Z,N,g3,L,g5,R⟩ | ⟨p,op,recs,d,J,trf,v,wr,u,Z,g0,gr,gd,gw,gs,N,g3,L,g7,g5,R⟩
   ·refine .inl ⟨B::recs,d,trf,by simp [Z],N,g3.trans (Eqv.puts recs M),λx hx=>L x (Y x hx),λj r c=>?_,λj f r q c=>?_⟩
    ·cases j with
     | zero=>simp only [lF,aq] at c;subst c;exact hte.imp (L _) id
     | succ j=>have:=g5 j r (by simpa using c);rwa [show i+1+j=i+(j+1) by omega] at this
    ·cases j with
     | zero=>
      simp only [lF,aq] at q c;subst q c;exact ⟨hd,hl⟩
     | succ j=>
      obtain ⟨p1,I⟩:=R j f r (by simpa using q) (by simpa using c);rw [show i+1+j=i+(j+1) by omega] at I;exact ⟨p1,I.eqv (by simpa using Eqv.puts (recs.take j) M)⟩
   ·rw [show i+1+p=i+(p+1) by omega] at N g7;refine .inr ⟨p+1,op,B::recs,d,J,trf,v,wr,u,by simp [Z],by simpa using g0,by simpa using gr,gd,gw,gs,N,g3.trans (by simpa using Eqv.puts (recs.take p) M),λx hx=>L x (Y x hx),g7.eqv (by simpa using Eqv.puts (recs.take p) M),λj r c X=>?_,λj f r q c=>?_⟩
    ·cases j with
     | zero=>simp only [lF,aq] at c;subst c;exact hte.imp (L _) id
     | succ j=>have:=g5 j r (by simpa using c) (by omega);rwa [show i+1+j=i+(j+1) by omega] at this
    ·cases j with
     | zero=>
      simp only [lF,aq] at q c;subst q c;exact ⟨hd,λ_=>hl⟩
     | succ j=>
      obtain ⟨p1,I⟩:=R j f r (by simpa using q) (by simpa using c);rw [show i+1+j=i+(j+1) by omega,show i+1+p=i+(p+1) by omega] at I;exact ⟨p1,λhc=>(I (hc.imp (λh=>by omega) λh=>⟨by omega,h.2⟩)).eqv (by simpa using Eqv.puts (recs.take j) M)⟩
  cases want
  ·simp only at h;split at h
   case h_2=>cases h
   rename_i hd;refine more ⟨o.dst,some (.tp []),[],[]⟩ tr (F.app o.dst (some (.tp [])) [] F.nb) rfl (λs' D O S W ι0 w0 ι a w G C K Q U=>?_) (y.put ⟨o.dst,some (.tp []),[],[]⟩) (xM e.symm) (λ_ h=>h) (.inr ⟨rfl,rfl⟩) h;rw [hw s' D n ι0 ι w0 a w G];simp only [bQ,aF];exact U ι _ _ (λ_ _=>rfl) (G.skip hd)
  ·simp only at h;rcases Dw hE (by omega) h with ⟨val,wr,rd,g,hk,A⟩ | ⟨v,wr,rd,hk,A⟩
   ·refine more ⟨o.dst,val,wr,rd⟩ (⟨i,rd,keys wr⟩::tr) (F.app o.dst val wr F.nb) rfl (λs' D O S W ι0 w0 ι a w G C K Q U=>?_) (y.put ⟨o.dst,val,wr,rd⟩) (xM e.symm) (λx hx=>fD _ hx) (.inl (by simp [keys])) hk;rw [hw s' D n ι0 ι w0 a w G];simp only [aN];refine A s' (xX λt ht=>by rw [D t ht,y.T]) (λb hb=>by rw [O b hb,y.H]) (by rw [S,e]) (by rw [W,y.ro]) ι0 w0 ι a w G (by simpa using C) K Q λι' a' w' z1 z2=>U ι' a' w' (by simpa using z1) z2
   ·obtain ⟨recs,trf,Z,N,L,g5,R⟩:=L8 hE l (i+1) _ tr (by simp only [St.app];omega) hk;have M:Eqv (F.app o.dst none [] F.nb) (s.put ⟨o.dst,none,[],rd⟩):=y.put ⟨o.dst,none,[],rd⟩;refine .inr ⟨0,o,⟨o.dst,none,[],rd⟩::recs,F,_,trf,v,wr,⟨o.dst,none,[],rd⟩,by simp [Z],rfl,rfl,rfl,rfl,rfl,N,y,L,λs' D O S W ι0 w0 ι a w G C K Q U=>?_,λj r c X=>?_,λj f r q c=>?_⟩
    ·simp only [mV,Jg] at D O S W;exact ⟨hw s' D n ι0 ι w0 a w G,A s' (xX λt ht=>by rw [D t ht,y.T]) (λb hb=>by rw [O b hb,y.H]) (by rw [S,e]) (by rw [W,y.ro]) ι0 w0 ι a w G (by simpa using C) K Q U⟩
    ·cases j with
     | zero=>exact absurd rfl X
     | succ j=>have:=g5 j r (by simpa using c);rwa [show i+1+j=i+(j+1) by omega] at this
    ·cases j with
     | zero=>
      simp only [lF,aq] at q c;subst q c;exact ⟨rfl,λh=>by omega⟩
     | succ j=>
      obtain ⟨p1,I⟩:=R j f r (by simpa using q) (by simpa using c);rw [show i+1+j=i+(j+1) by omega] at I;refine ⟨p1,λhc=>(I ?_).eqv (by simpa using Eqv.puts (recs.take j) M)⟩;rcases hc with hc | hc
      ·omega
      ·exact hc.2
def Down(ops:List Oper)(D:Nat->Bool):Prop:=∀j o e,ops[j]?=some o->D j=true->e∈o.after.toList->Region.binds .any e=true->D e.on=true
def Must(ops:List Oper)(i j:Nat):Prop:=∀D,Down ops D->D j=true->D i=true
def Dn(a:Array Bool):Nat->Bool:=λi=>a.getD i false
structure DrawFacts(P:Program)(n nb0:Nat)(ops:List Oper)(recs:List Rec)(s0:St)(live:Nat->Prop):Prop where
 len:recs.length=ops.length
 nb:s0.nb=nb0+8*ops.length
 loc:∀(j:Nat) (o:Oper) (r:Rec),ops[j]?=some o->recs[j]?=some r->(∀t,r.dst=some t->o.dst=some t)/\(live j->uX P n nb0 ops j o r (appD 0 recs (λm=>decide (m<j)) s0))
 down:∀(j:Nat) (o:Oper) (e:Edge),ops[j]?=some o->e∈o.after.toList->Region.binds .any e=true->e.on<j
 apart:∀(i j:Nat) (x y:Oper),i<j->ops[i]?=some x->ops[j]?=some y->Must ops i j\/x.apart ops.toArray y=true
 blk:∀(i j:Nat) (x y:Rec),i<j->recs[i]?=some x->recs[j]?=some y->Must ops i j\/((∀b∈keys x.wr,b∉y.rd/\b∉keys y.wr)/\∀b∈x.rd,b∉keys y.wr)
def ur{ops:List Oper}{a:Array Bool}{i:Nat}(hs:a.size=ops.length)(h:i∈Region.ready .any ops.toArray a):
  ∃o,ops[i]?=some o/\i<ops.length/\Dn a i=false/\∀e∈o.after.toList,Region.binds .any e=true->Dn a e.on=true:=by
 unfold Region.ready at h;simp only[l8,ju,aB,wU]at h;obtain⟨c,b,d⟩:=h;have f:ops[i]?=some ops[i]:=by simp[c]
 refine⟨ops[i],f,c,?_,λe j g=>?_⟩
 ·unfold Dn;have:i<a.size:=by omega
  simp only[rK,XE this,CJ]at b ⊢;simpa using b
 ·simp only[List.getElem?_toArray,f,fh,CJ]at d;have:=(Array.all_eq_true'.1 d) e (by simpa using j);simp only[g,dL,sL]at this;exact this
def BB{ops:List Oper}{a:Array Bool}{i:Nat}{o:Oper}(hs:a.size=ops.length)(d:ops[i]?=some o)(b:Dn a i=false)
  (g:∀e∈o.after.toList,Region.binds .any e=true->Dn a e.on=true):i∈Region.ready .any ops.toArray a:=by
 have hi:i<ops.length:=by
  rcases aJ i ops.length with c | c
  ·exact c
  ·rw[f7 c]at d;cases d
 unfold Region.ready;simp only[l8,ju,aB,wU];refine⟨hi,?_,?_⟩
 ·have:i<a.size:=by omega
  unfold Dn at b;simp only[rK,XE this,CJ]at b ⊢;simp[b]
 ·simp only[List.getElem?_toArray,d,fh,CJ];refine Array.all_eq_true'.2 λe h=>?_;cases f:Region.binds .any e with
  | false=>rfl
  | true=>
   have:=g e (by simpa using h) f;unfold Dn at this;simpa using this
def zW{a:Array Bool}{i:Nat}(h:i<a.size)(j:Nat):Dn (a.setIfInBounds i true) j=if j=i then true else Dn a j:=by
 unfold Dn;simp only[rK];rw[TU];by_cases b:i=j
 ·subst b;simp[h]
 ·simp[b,show¬j=i fromλe=>b e.symm]
def Down.add{ops:List Oper}{D:Nat->Bool}(h:Down ops D){i:Nat}{o:Oper}(U:ops[i]?=some o)(O:∀e∈o.after.toList,Region.binds .any e=true->D e.on=true):
  Down ops λj=>if j=i then true else D j:=by
 intro j Q e E G J F;show(if e.on=i then true else D e.on)=true;by_cases C:j=i
 ·subst C;rw[U]at E;cases E;have:=O e J F;split
  ·rfl
  ·exact this
 ·simp only[C,aF]at G;have:=h j Q e E G J F;split
  ·rfl
  ·exact this
def Must.in{ops:List Oper}{D:Nat->Bool}(h:Down ops D){i k:Nat}{o:Oper}(F:ops[i]?=some o)(E:∀e∈o.after.toList,Region.binds .any e=true->D e.on=true)
  (G:Must ops k i) (C:k≠i):D k=true:=by
 have:=G _ (h.add F E) (by simp);simpa[C]using this
section
variable {n nb0:Nat} {ops:List Oper} {recs:List Rec} {s0:St} {live:Nat->Prop} (F:DrawFacts P n nb0 ops recs s0 live)
include F
def yR{i:Nat}{o:Oper}(h:ops[i]?=some o):∃r,recs[i]?=some r:=by
 have hi:i<ops.length:=by
  rcases aJ i ops.length with h' | h'
  ·exact h'
  ·rw[f7 h']at h;cases h
 exact⟨recs[i]'(by rw[F.len];exact hi),by simp[F.len,hi]⟩
def wO{i:Nat}{r:Rec}(h:recs[i]?=some r):∃o,ops[i]?=some o:=by
 have hi:i<recs.length:=by
  rcases aJ i recs.length with h' | h'
  ·exact h'
  ·rw[f7 h']at h;cases h
 exact⟨ops[i]'(by rw[<-F.len];exact hi),by simp[F.len▸hi]⟩
def A3{D:Nat->Bool}(q:Down ops D){i:Nat}{o:Oper}(k:ops[i]?=some o)(v:D i=false)(w:∀e∈o.after.toList,Region.binds .any e=true->D e.on=true)
  {t:Nat} (u:t∈o.looksAt ops.toArray):look (appD 0 recs D s0).T t=look (appD 0 recs (λm=>decide (m<i)) s0).T t:=by
 rw[Az,Az];refine tC recs 0 _ _ t _ λj r s x=>?_;simp only[cK];obtain⟨g,b⟩:=wO F s;have a:=((F.loc j g r b s).1 t x).symm;rcases GI j i with d | f | n
 ·have h:D j=true:=by
   rcases F.apart j i g o d b k with p | c
   ·exact p.in q k w (by omega)
   ·exact absurd u ((Gf c).1 t a.symm)
  rw[h];simp[d]
 ·subst f;simp[v]
 ·have h:D j=false:=by
   rcases F.apart i j o g n k b with p | c
   ·cases l:D j with
    | false=>rfl
    | true=>have:=p D q l;rw[v]at this;cases this
   ·exact absurd u ((Gf c).2.2 t a.symm)
  rw[h];simp;omega
def Bl{D:Nat->Bool}(n:Down ops D){i:Nat}{o:Oper}{r:Rec}(w:ops[i]?=some o)(u:recs[i]?=some r)(t:D i=false)
  (v:∀e∈o.after.toList,Region.binds .any e=true->D e.on=true) {b:Nat} (l:b∈r.rd):look (appD 0 recs D s0).H b=look (appD 0 recs (λm=>decide (m<i)) s0).H b:=by
 rw[yC,yC];refine pZ recs 0 _ _ b _ λj p q s=>?_;simp only[cK];rcases GI j i with c | d | h
 ·have f:D j=true:=by
   rcases F.blk j i p r c q u with k | a
   ·exact k.in n w v (by omega)
   ·exact absurd l (a.1 b s).1
  rw[f];simp[c]
 ·subst d;simp[t]
 ·have f:D j=false:=by
   rcases F.blk i j r p h u q with k | a
   ·cases g:D j with
    | false=>rfl
    | true=>have:=k D n g;rw[t]at this;cases this
   ·exact absurd s (a.2 b l)
  rw[f];simp;omega
def CS{D:Nat->Bool}(A:Down ops D){i:Nat}{o:Oper}{r:Rec}(C:ops[i]?=some o)(f:recs[i]?=some r)(z:D i=false):
  Eqv ((appD 0 recs D s0).put r) (appD 0 recs (λj=>if j=i then true else D j) s0):=by
 have m:=(F.loc i o r C f).1;refine⟨λt=>?_,λb=>?_,by rw[V5,lQ,lQ],by show(appD 0 recs D s0).lo=_;rw[wM,wM],by show(appD 0 recs D s0).ro=_;rw[jq,jq],by show(appD 0 recs D s0).rb=_;rw[yc,yc]⟩
 ·rw[Ql,Az,Az];by_cases h:r.dst=some t
  ·rw[ae h];symm;refine Hw recs 0 i _ t _ r f (by simp) h λk l y c s=>?_;simp only[cK,show¬k=i by omega,aF];obtain⟨ok,p⟩:=wO F c;have w:=(F.loc k ok l p c).1;rcases F.apart i k o ok y C p with q | e
   ·cases d:D k with
    | false=>rfl
    | true=>have:=q D A d;rw[z]at this;cases this
   ·exact absurd (w t s) ((Gf e).2.1 t (m t h))
  ·rw[ab h];refine tC recs 0 _ _ t _ λj l n u=>?_;simp only[cK];by_cases a:j=i
   ·subst a;rw[f]at n;cases n;exact absurd u h
   ·simp[a]
 ·rw[Rl,yC,yC];by_cases g:b∈keys r.wr
  ·obtain⟨v,B⟩:=sc g;rw[B,Option.some_or];symm;rw[<-B];refine Ji recs 0 i _ b _ r f (by simp) g λk l y c x=>?_;simp only[cK,show¬k=i by omega,aF];rcases F.blk i k r l y f c with q | e
   ·cases d:D k with
    | false=>rfl
    | true=>have:=q D A d;rw[z]at this;cases this
   ·exact absurd x (e.1 b g).2
  ·rw[rc g,Gq];refine pZ recs 0 _ _ b _ λj l n x=>?_;simp only[cK];by_cases a:j=i
   ·subst a;rw[f]at n;cases n;exact absurd x g
   ·simp[a]
def D4 {kk:Nat} (y:∀j,kk<=j->j<ops.length->live j) {ι0:Inj} {w0:Base} {Q:Exit->Act->World->Prop} (S:∀ι a w,Inv n ι0 w0 ι (recs.foldl St.put s0) a w->Q .normal a w):
  ∀(fuel:Nat) (c:Array Bool) (ι:Inj) (a:Act) (w:World),c.size=ops.length->(∀j,j<kk->Dn c j=true)->Down ops (Dn c)->Inv n ι0 w0 ι (appD 0 recs (Dn c) s0) a w->
   (∀i,i<ops.length->Dn c i=false->∀b,nb0+8*i<=b->b<nb0+8*i+8->ι b=none)->((List.range ops.length).filter λi=>!Dn c i).length<=fuel->
   wpAny P .any ops.toArray Q fuel c a w:=by
 have fin:∀(c:Array Bool) (ι:Inj) (a:Act) (w:World),c.size=ops.length->Inv n ι0 w0 ι (appD 0 recs (Dn c) s0) a w->Region.ready .any ops.toArray c=[]->Q .normal a w:=by
  intro c ι a w hs v p;have A:∀j,j<ops.length->Dn c j=true:=by
   intro j
   induction j using Nat.strongRecOn with
   | _ j ih=>
    intro x;cases J:Dn c j with
    | true=>rfl
    | false=>
     have f:ops[j]?=some ops[j]:=by simp [x]
     have M:=BB hs f J λe N D=>ih e.on (F.down j _ e f N D) (by have:=F.down j _ e f N D;omega);rw [p] at M;cases M
  rw [BI recs 0 (Dn c) s0 λj x=>by simpa using A j (by rw [<-F.len];exact x)] at v;exact S ι a w v
 intro fuel
 induction fuel with
 | zero=>
  intro c ι a w hs s z v u hc;have p:Region.ready .any ops.toArray c=[]:=by
   rw [List.eq_nil_iff_forall_not_mem];intro i hi;obtain ⟨o,f,g,m,_⟩:=ur hs hi;have:i∈(List.range ops.length).filter λi=>!Dn c i:=by simp [g,m]
   have:=Gl this;omega
  exact ⟨p,fin c ι a w hs v p⟩
 | succ fuel ih=>
  intro c ι a w hs s z v u hc;refine ⟨fin c ι a w hs v,λi hi=>?_⟩;obtain ⟨o,f,g,m,H⟩:=ur hs hi;obtain ⟨r,p⟩:=yR F f;have B:=(F.loc i o r f p).2 (y i (by rcases aJ i kk with h | h;(· have:=s i h;rw [m] at this;cases this);exact h) g);have d:Dn (c.setIfInBounds i true)=λj=>if j=i then true else Dn c j:=by
   funext j;exact zW (by omega) j
  have E:=B (appD 0 recs (Dn c) s0) (λt O=>A3 F z f m H O) (λb D=>Bl F z f p m H D) (by rw [lQ,lQ]) (by rw [jq,jq]) ι0 w0 ι a w v (u i g m)
   (wpAny P .any ops.toArray Q fuel (c.setIfInBounds i true)) Q λK R w' U T=>by
    refine ih _ K R w' (by simpa using hs) (λj x=>by rw [d];simp only;split;(· rfl);exact s j x) (by rw [d];exact z.add f H) (by rw [d];exact T.eqv (CS F z f p m)) (λj x l b G I=>?_) ?_
    ·rw [d] at l;by_cases k:j=i
     ·simp [k] at l
     ·simp only [k,aF] at l;rw [U b (by omega)];exact u j x l b G I
    ·have:((List.range ops.length).filter λj=>!Dn (c.setIfInBounds i true) j).length<((List.range ops.length).filter λj=>!Dn c j).length:=by
      rw [d];have C:((List.range ops.length).filter λj=>!(if j=i then true else Dn c j))=((List.range ops.length).filter λj=>!Dn c j).filter λj=>decide (j≠i):=by
       rw [Ic];congr 1;funext j;by_cases k:j=i<;>simp [k]
      rw [C];refine Bh.2 ⟨i,by simp [g,m],by simp⟩
     omega
  unfold wpOp;have L:ops.toArray[i]?=some o:=by simpa using f
  rw [L];simp only;split
  ·rename_i q;rw [ae q] at E;exact .inl E
  ·rename_i q;rw [ab q] at E;exact E
def QL {lim kk:Nat} (D:lim<ops.length) (g:∀j,kk<=j->j<lim->live j/\Must ops j lim) (z:∀j,lim<j->j<ops.length->Must ops lim j) {ι0:Inj} {w0:Base} {Q:Exit->Act->World->Prop}
  (W:∀(fuel:Nat) (c:Array Bool) (ι:Inj) (a:Act) (w:World),c.size=ops.length->(∀j,j<lim->Dn c j=true)->Dn c lim=false->Down ops (Dn c)->Down ops (Dn (c.setIfInBounds lim true))->
   Inv n ι0 w0 ι (appD 0 recs (Dn c) s0) a w->((List.range ops.length).filter λi=>!Dn c i).length<=fuel+1->wpOp P ops.toArray Q lim (wpAny P .any ops.toArray Q fuel (c.setIfInBounds lim true)) a w):
  ∀(fuel:Nat) (c:Array Bool) (ι:Inj) (a:Act) (w:World),c.size=ops.length->(∀j,j<kk->Dn c j=true)->Down ops (Dn c)->Dn c lim=false->Inv n ι0 w0 ι (appD 0 recs (Dn c) s0) a w->
   (∀i,i<ops.length->Dn c i=false->∀b,nb0+8*i<=b->b<nb0+8*i+8->ι b=none)->((List.range ops.length).filter λi=>!Dn c i).length<=fuel->
   wpAny P .any ops.toArray Q fuel c a w:=by
 have fin:∀(c:Array Bool),c.size=ops.length->Dn c lim=false->Region.ready .any ops.toArray c=[]->False:=by
  intro c hs hp v;have B:∀j,j<ops.length->Dn c j=true:=by
   intro j
   induction j using Nat.strongRecOn with
   | _ j ih=>
    intro x;cases L:Dn c j with
    | true=>rfl
    | false=>
     have f:ops[j]?=some ops[j]:=by simp [x]
     have S:=BB hs f L λe T H=>ih e.on (F.down j _ e f T H) (by have:=F.down j _ e f T H;omega);rw [v] at S;cases S
  rw [B lim D] at hp;cases hp
 intro fuel
 induction fuel with
 | zero=>
  intro c ι a w hs k m hp O u hc;have:lim∈(List.range ops.length).filter λi=>!Dn c i:=by simp [D,hp]
  have:=Gl this;omega
 | succ fuel ih=>
  intro c ι a w hs k m hp O u hc;refine ⟨λv=>(fin c hs hp v).elim,λi hi=>?_⟩;obtain ⟨o,f,y,s,A⟩:=ur hs hi;obtain ⟨r,v⟩:=yR F f;have d:Dn (c.setIfInBounds i true)=λj=>if j=i then true else Dn c j:=by
   funext j;exact zW (by omega) j
  by_cases G:i=lim
  ·subst G;refine W fuel c ι a w hs (λj x=>?_) s m (by rw [d];exact m.add f A) O hc;rcases aJ j kk with h | h
   ·exact k j h
   ·exact (g j h x).2.in m f A (by omega)
  have R:ops.toArray[i]?=some o:=by simpa using f
  unfold wpOp;rw [R];simp only;have hlt':i<lim:=by
   rcases aJ i lim with h | h
   ·exact h
   ·have:=(z i (by omega) y).in m f A (λe=>G e.symm);rw [hp] at this;cases this
  have M:kk<=i:=by
   rcases aJ i kk with h | h
   ·have:=k i h;rw [s] at this;cases this
   ·exact h
  have C:=(F.loc i o r f v).2 (g i M hlt').1
  have I:=C (appD 0 recs (Dn c) s0) (λt U=>A3 F m f s A U) (λb H=>Bl F m f v s A H) (by rw [lQ,lQ]) (by rw [jq,jq]) ι0 w0 ι a w O (u i y s)
   (wpAny P .any ops.toArray Q fuel (c.setIfInBounds i true)) Q λN V w' Y X=>by
    refine ih _ N V w' (by simpa using hs) (λj x=>by rw [d];simp only;split;(· rfl);exact k j x) (by rw [d];exact m.add f A) (by rw [d];simp only [show ¬lim=i by omega,aF];exact hp) (by rw [d];exact X.eqv (CS F m f v s)) (λj x p b J K=>?_) ?_
    ·rw [d] at p;by_cases l:j=i
     ·simp [l] at p
     ·simp only [l,aF] at p;rw [Y b (by omega)];exact u j x p b J K
    ·have:((List.range ops.length).filter λj=>!Dn (c.setIfInBounds i true) j).length<((List.range ops.length).filter λj=>!Dn c j).length:=by
      rw [d];have E:((List.range ops.length).filter λj=>!(if j=i then true else Dn c j))=((List.range ops.length).filter λj=>!Dn c j).filter λj=>decide (j≠i):=by
       rw [Ic];congr 1;funext j;by_cases l:j=i<;>simp [l]
      rw [E];refine Bh.2 ⟨i,by simp [y,s],by simp⟩
     omega
  split
  ·rename_i q;rw [ae q] at I;exact .inl I
  ·rename_i q;rw [ab q] at I;exact I
def Qh {lim:Nat} {ι0:Inj} {w0:Base} {Q:Exit->Act->World->Prop} {X:Oper} {pr:Rec} {v:V} {wr:List (Nat×Blk)} (g:ops[lim]?=some X) (K:recs[lim]?=some pr)
  (W:Ab P n nb0 ops lim X v wr pr.rd (appD 0 recs (λm=>decide (m<lim)) s0))
  (C:∀j,j<ops.length->j≠lim->live j\/Must ops lim j)
  (hQ:∀D,Down ops D->(∀e∈X.after.toList,Region.binds .any e=true->D e.on=true)->D lim=false->∀ι x a w,VR ι v x->Inv n ι0 w0 ι ((appD 0 recs D s0).app none none wr s0.nb) a w->Q (.panic [{ v:=x,recovered:=false }]) a w):
  ∀(fuel:Nat) (c:Array Bool) (ι:Inj) (a:Act) (w:World),c.size=ops.length->Down ops (Dn c)->Dn c lim=false->Inv n ι0 w0 ι (appD 0 recs (Dn c) s0) a w->
   (∀i,i<ops.length->Dn c i=false->∀b,nb0+8*i<=b->b<nb0+8*i+8->ι b=none)->((List.range ops.length).filter λi=>!Dn c i).length<=fuel->
   wpAny P .any ops.toArray Q fuel c a w:=by
 have I:lim<ops.length:=by
  rcases aJ lim ops.length with S | S
  ·exact S
  ·rw [f7 S] at g;cases g
 have fin:∀(c:Array Bool),c.size=ops.length->Dn c lim=false->Region.ready .any ops.toArray c=[]->False:=by
  intro c hs hp s;have G:∀j,j<ops.length->Dn c j=true:=by
   intro j
   induction j using Nat.strongRecOn with
   | _ j ih=>
    intro hj;cases U:Dn c j with
    | true=>rfl
    | false=>
     have f:ops[j]?=some ops[j]:=by simp [hj]
     have L:=BB hs f U λe he E=>ih e.on (F.down j _ e f he E) (by have:=F.down j _ e f he E;omega);rw [s] at L;cases L
  rw [G lim I] at hp;cases hp
 intro fuel
 induction fuel with
 | zero=>
  intro c ι a w hs l hp Z p hc;have:lim∈(List.range ops.length).filter λi=>!Dn c i:=by simp [I,hp]
  have:=Gl this;omega
 | succ fuel ih=>
  intro c ι a w hs l hp Z p hc;refine ⟨λs=>(fin c hs hp s).elim,λi hi=>?_⟩;obtain ⟨o,f,u,k,z⟩:=ur hs hi;obtain ⟨r,s⟩:=yR F f;have hoa:ops.toArray[i]?=some o:=by simpa using f
  unfold wpOp;rw [hoa];simp only;by_cases B:i=lim
  case neg=>
   rcases C i u B with hlv | L
   case inr=>
    have:=L.in l f z (λe=>B e.symm);rw [hp] at this;cases this
   have H:=(F.loc i o r f s).2 hlv;have d:Dn (c.setIfInBounds i true)=λj=>if j=i then true else Dn c j:=by
    funext j;exact zW (by omega) j
   have N:=H (appD 0 recs (Dn c) s0) (λt R=>A3 F l f k z R) (λb E=>Bl F l f s k z E) (by rw [lQ,lQ]) (by rw [jq,jq]) ι0 w0 ι a w Z (p i u k)
    (wpAny P .any ops.toArray Q fuel (c.setIfInBounds i true)) Q λA a' w' Y M=>by
     refine ih _ A a' w' (by simpa using hs) (by rw [d];exact l.add f z) (by rw [d];simp only [show ¬lim=i by omega,aF];exact hp) (by rw [d];exact M.eqv (CS F l f s k)) (λj hj q b O T=>?_) ?_
     ·rw [d] at q;by_cases h:j=i
      ·simp [h] at q
      ·simp only [h,aF] at q;rw [Y b (by omega)];exact p j hj q b O T
     ·have:((List.range ops.length).filter λj=>!Dn (c.setIfInBounds i true) j).length<((List.range ops.length).filter λj=>!Dn c j).length:=by
       rw [d];have J:((List.range ops.length).filter λj=>!(if j=i then true else Dn c j))=((List.range ops.length).filter λj=>!Dn c j).filter λj=>decide (j≠i):=by
        rw [Ic];congr 1;funext j;by_cases h:j=i<;>simp [h]
       rw [J];refine Bh.2 ⟨i,by simp [u,k],by simp⟩
      omega
   split
   ·rename_i y;rw [ae y] at N;exact .inl N
   ·rename_i y;rw [ab y] at N;exact N
  case pos=>
   subst B;rw [g] at f;cases f;rw [K] at s;cases s
   obtain ⟨q1,q2⟩:=W (appD 0 recs (Dn c) s0) (λt R=>A3 F l g k z R) (λb E=>Bl F l g K k z E) (by rw [lQ,lQ]) (by rw [jq,jq]) ι0 w0 ι a w Z (p i u k)
    (wpAny P .any ops.toArray Q fuel (c.setIfInBounds i true)) Q λA x w' Y M=>hQ _ l z k A x a w' Y (by rw [lQ] at M;exact M)
   rw [ae q1];exact .inl q2
end
def EU:∀{l:List Nat} {j:Nat},l.length<=j->getN l j=0
 | [],_,_=>rfl
 | _::_,0,h=>by simp at h
 | _::l,j+1,h=>EU (l:=l) (by simpa using h)
def sO:∀{l m:List Nat} {j:Nat},j<l.length->getN (l++m) j=getN l j
 | [],_,_,h=>by simp at h
 | _::_,_,0,_=>rfl
 | _::l,m,j+1,h=>sO (l:=l) (m:=m) (by simpa using h)
def sV:∀(l:List Nat) (x:Nat),getN (l++[x]) l.length=x
 | [],_=>rfl
 | _::l,x=>sV l x
def tW(acc:List Nat):∀(l:List Edge) (s i:Nat),(D7 acc l s).testBit i=true->s.testBit i=true\/∃e∈l,Region.binds .any e=true/\(e.on=i\/(getN acc e.on).testBit i=true)
 | [],s,i,h=>.inl h
 | e::l,s,i,h=>by
  simp only[D7]at h;split at h
  ·rename_i f;rcases tW acc l _ i h with a | ⟨d,b,c⟩
   ·simp only[Nat.testBit_or,iq]at a;rcases a with(a | a) | a
    ·exact .inl a
    ·refine .inr ⟨e,by simp,f,.inl ?_⟩;rw[Nat.testBit_two_pow]at a;simpa using a
    ·exact .inr ⟨e,by simp,f,.inr a⟩
   ·exact .inr ⟨d,fD _ b,c⟩
  ·rcases tW acc l _ i h with a | ⟨d,b,c⟩
   ·exact .inl a
   ·exact .inr ⟨d,fD _ b,c⟩
def qG(ops:List Oper):∀(r:List Oper) (acc:List Nat),(∀j,r[j]?=ops[acc.length+j]?)->(∀j i,(getN acc j).testBit i=true->Must ops i j)->
  ∀j i,(getN (kS r acc) j).testBit i=true->Must ops i j
 | [],acc,_,h=>h
 | o::r,acc,m,h=>by
  simp only[kS];refine qG ops r _ (λj=>by have:=m (j+1);simp only[iO9]at this;rw[this];simp;congr 1;omega) λj i a=>?_;rcases GI j acc.length with g | d | q
  ·rw[sO g]at a;exact h j i a
  ·subst d;rw[sV]at a;have p:ops[acc.length]?=some o:=by have:=m 0;simpa using this.symm
   rcases tW acc _ _ _ a with b | ⟨e,n,c,b⟩
   ·simp at b
   ·intro D l f;have k:=l acc.length o e p f n c;rcases b with rfl | b
    ·exact k
    ·exact h e.on i b D l k
  ·rw[EU (by simp;omega)]at a;simp at a
def kh:∀(l:List Oper) (i:Nat),ra i l=true->∀(j:Nat) (o:Oper) (e:Edge),l[j]?=some o->e∈o.after.toList->Region.binds .any e=true->e.on<i+j
 | [],_,_,_,_,_,h,_,_=>by simp at h
 | o::l,i,h,j,d,e,a,c,b=>by
  simp only[ra,aB,bS]at h;cases j with
  | zero=>
   simp only[lF,aq]at a;subst a;have:=h.1 e c;simp only[b,dL,sL]at this;exact aI this
  | succ j=>have:=kh l (i+1) h.2 j d e (by simpa using a) c b;omega
def sN{ops:Array Oper}{o:Oper}{a:Nat}:∀(l:List Oper) (i:Nat),ui ops o a i l=true->∀(j:Nat) (p:Oper),l[j]?=some p->a.testBit (i+j)=true\/p.apart ops o=true
 | [],_,_,_,_,h=>by simp at h
 | q::l,i,h,j,p,b=>by
  simp only[ui,aB,iq]at h;cases j with
  | zero=>simp only[lF,aq]at b;subst b;exact h.1
  | succ j=>have:=sN l (i+1) h.2 j p (by simpa using b);rwa[show i+1+j=i+(j+1)by omega]at this
def nF{ops:Array Oper}{masks:List Nat}:∀(l a:List Oper),uc ops masks a.length a l=true->∀(i j:Nat) (x y:Oper),i<a.length+j->(a++l)[i]?=some x->l[j]?=some y->
  (getN masks (a.length+j)).testBit i=true\/x.apart ops y=true
 | [],_,_,_,_,_,_,_,_,h=>by simp at h
 | o::l,a,h,i,j,x,y,hi,hx,hy=>by
  simp only[uc,aB]at h;cases j with
  | zero=>
   simp only[lF,aq]at hy;subst hy;have:=sN a 0 h.1 i x (by rw[n6 (by simpa using hi)]at hx;exact hx);simpa using this
  | succ j=>
   have b:=h.2;rw[show a.length+1=(a++[o]).length by simp]at b;have:=nF l (a++[o]) b i j x y (by simp;omega) (by simpa using hx) (by simpa using hy);rwa[show(a++[o]).length+j=a.length+(j+1)by simp;omega]at this
def re{masks:List Nat}:∀{tr:List TE},qm masks tr=true->∀x∈tr,∀y∈tr,x.i<y.i->yQ masks x y=true\/yQ masks y x=true
 | [],_,x,hx,_,_,_=>by cases hx
 | z::l,h,x,hx,y,hy,c=>by
  simp only[qm,aB,bS]at h;rcases cb.1 hx with b | b
  ·subst b;rcases cb.1 hy with a | a
   ·subst a;omega
   ·exact .inl (h.1 y a)
  ·rcases cb.1 hy with a | a
   ·subst a;exact .inr (h.1 x b)
   ·exact re h.2 x b y a c
def xo{x y:TE}(h:UK x y=false):(∀b∈x.ws,b∉y.rd/\b∉y.ws)/\∀b∈x.rd,b∉y.ws:=by
 simp only[UK,qO,sW,iq,not_or,List.contains_iff_mem]at h;exact⟨λb a=>h.1 b a,λb a=>h.2 b a⟩
def Eh{masks:List Nat}{x y:TE}(h:yQ masks x y=true\/yQ masks y x=true)(e:x.i<y.i):
  (getN masks y.i).testBit x.i=true\/((∀b∈x.ws,b∉y.rd/\b∉y.ws)/\∀b∈x.rd,b∉y.ws):=by
 have j:Nat.blt x.i y.i=true:=cD e;have f:Nat.blt y.i x.i=false:=by
  cases g:Nat.blt y.i x.i with
  | false=>rfl
  | true=>have:y.i<x.i:=aI g;omega
 rcases h with h | h
 ·simp only[yQ,j,aj,iq,jX]at h;exact h.imp id xo
 ·simp only[yQ,f,af,iq,jX]at h;refine h.imp id λh=>?_;obtain⟨a,b⟩:=xo h;exact⟨λc hc=>⟨λk=>b c k hc,λd=>(a c d).2 hc⟩,λc hc d=>(a c d).1 hc⟩
def vh:∀(ops:List Oper) {T:List (Nat×Option V)} (t:Nat) (v:V),look (Ju ops T) t=some (some v)->(∀o∈ops,o.dst≠some t)/\look T t=some (some v)
 | [],T,t,v,h=>⟨by simp,h⟩
 | o::l,T,t,v,h=>by
  simp only[Ju]at h;split at h
  ·rename_i d c;rw[aS]at h;split at h
   ·cases h
   ·rename_i f;obtain⟨b,a⟩:=vh l t v h;refine⟨λx hx=>?_,a⟩;rcases cb.1 hx with rfl | hx
    ·rw[c];intro e;cases e;exact f rfl
    ·exact b x hx
  ·rename_i c;obtain⟨b,a⟩:=vh l t v h;refine⟨λx hx=>?_,a⟩;rcases cb.1 hx with rfl | hx
   ·rw[c];intro e;cases e
   ·exact b x hx
def Jy{α:Type}{E:List Ent}(hE:∀x∈E,fC P x){n:Nat}{ops:List Oper}{s:St}{k:Ex->St->Option α}{z:α}(h:GR P E n ops s k=some z)(id:Nat):
  SemC P n (.region id ops.toArray true) s λex s'=>k ex s'=some z:=by
 intro ι0 w0 ι a w hI;unfold GR at h;split at h
 case h_2=>cases h
 rename_i hok;simp only[aB,I7]at hok;obtain⟨⟨hb1,hb2,_⟩,R⟩:=hok;have g:=qG ops ops [] (by simp) (λj i u=>by simp[getN]at u);have hI1:Inv n ι0 w0 ι { s with nb:=s.nb+8*ops.length } a { w with drawn:=w.drawn+1 }:=by
  have d:=hI.drawn (w.drawn+1);exact⟨d.size,d.defers,d.tmps,⟨d.mem.inj,λb r u=>by have:=d.mem.low b r u;simp only;omega,d.mem.dom,d.mem.blk⟩,d.ext,d.new,d.fr,d.low,d.fz,d.gl⟩
 have M:∀i,Dn (Array.replicate ops.toArray.size false) i=false:=by
  intro i;unfold Dn;simp only[rK,Ws];split<;>rfl
 have hno:∀(l:List Rec) (i:Nat) (D:Nat->Bool) (s:St),(∀j,D j=false)->appD i l D s=s:=by
  intro l
  induction l with
  | nil=>intros;rfl
  | cons r l ih=>intro i D s hD;simp only[appD,hD i,bQ,aF];exact ih _ D s hD
 have C:∀(trf:List TE) (x y:Rec) (i j:Nat),qm (kS ops []) (trf.filter λx=>!(x.rd.isEmpty&&x.ws.isEmpty))=true->i<j->((⟨0+i,x.rd,keys x.wr⟩:TE)∈trf\/(x.rd=[]/\x.wr=[]))->((⟨0+j,y.rd,keys y.wr⟩:TE)∈trf\/(y.rd=[]/\y.wr=[]))->
   Must ops i j\/((∀b∈keys x.wr,b∉y.rd/\b∉keys y.wr)/\∀b∈x.rd,b∉keys y.wr):=by
  intro trf x y i j K B hx hy;rcases hx with hxm | ⟨hx1,hx2⟩
  ·rcases hy with hym | ⟨hy1,hy2⟩
   ·simp only[cK]at hxm hym;by_cases W:(x.rd=[]/\x.wr=[])
    ·exact .inr (by simp[W.1,W.2,keys])
    ·by_cases V:(y.rd=[]/\y.wr=[])
     ·exact .inr (by simp[V.1,V.2,keys])
     ·have m1:(⟨i,x.rd,keys x.wr⟩:TE)∈trf.filter λx=>!(x.rd.isEmpty&&x.ws.isEmpty):=by
       refine l8.2 ⟨hxm,?_⟩;simp only[keys,jX,IE,BD];rcases It (x.rd=[])with h | h
       ·exact .inr (by simpa usingλhw=>W ⟨h,hw⟩)
       ·exact .inl h
      have m2:(⟨j,y.rd,keys y.wr⟩:TE)∈trf.filter λx=>!(x.rd.isEmpty&&x.ws.isEmpty):=by
       refine l8.2 ⟨hym,?_⟩;simp only[keys,jX,IE,BD];rcases It (y.rd=[])with h | h
       ·exact .inr (by simpa usingλhw=>V ⟨h,hw⟩)
       ·exact .inl h
      have:=Eh (re K _ m1 _ m2 B) B;exact this.imp (g j i) λh=>h
   ·exact .inr (by simp[hy1,hy2,keys])
  ·exact .inr (by simp[hx1,hx2,keys])
 rcases BY hE ops 0 _ [] (by simp) h with⟨recs,Q,trf,g1,S,O,_,g5,g6⟩ | ⟨p,po,recs,Q,sp,trf,v,wr,rp,g1,g0,gr,gd,gw,rfl,S,O,_,g7,g5,g6⟩
 ·split at S
  case h_2=>cases S
  rename_i K;have F:DrawFacts P n s.nb ops recs { s with nb:=s.nb+8*ops.length } (λ_=>True):=by
   refine⟨g1,rfl,λj o r N X=>?_,λj o e N he u=>?_,λi j x y B hx hy=>?_,λi j x y B hx hy=>?_⟩
   ·obtain⟨p1,p2⟩:=g6 j o r N X;simp only[cK]at p2;have e:=rr recs 0 j { s with nb:=s.nb+8*ops.length };simp only[cK]at e;exact⟨λt U=>p1▸U,λ_=>p2.eqv e⟩
   ·have:=kh ops 0 hb1 j o e N he u;omega
   ·have:=nF (masks:=kS ops []) ops [] hb2 i j x y (by simpa using B) (by simpa using hx) hy;simp only[cE,cK]at this;exact this.imp (g j i) λh=>h
   ·exact C trf x y i j K B (g5 i x hx) (g5 j y hy)
  refine wp_region_any R (D4 (kk:=0) F (λ_ _ _=>trivial) (λL a' w' f=>⟨.normal,Q,L,rfl,f.eqv O.symm,S⟩) _ _ ι a _ (by simp) (λj Z=>by omega) (λj o e _ J=>by rw[M j]at J;cases J) (by rw[hno recs 0 _ _ M];exact hI1) (λi _ _ b u _=>?_) ?_)
  ·exact hI.fresh b (by omega)
  ·have:=AY (λi=>!Dn (Array.replicate ops.toArray.size false) i) (List.range ops.length);simpa using this
 ·split at S
  case h_2=>cases S
  rename_i hpk;simp only[aB,X7]at hpk;obtain⟨hw,K⟩:=hpk;simp only[cK]at S g7 hw;have B:p<ops.length:=by
   rcases aJ p ops.length with h' | h'
   ·exact h'
   ·rw[f7 h']at g0;cases g0
  have A:∀i r,recs[i]?=some r->i≠p->(i<p/\Must ops i p)\/r.wr=[]:=by
   intro i r X G;rcases g5 i r X G with hx | hx
   ·have:=(bS.1 hw) _ hx;simp only[cK,iq,aB]at this;rcases this with h | h
    ·right;simpa[keys]using h
    ·exact .inl ⟨aI h.1,g p i h.2⟩
   ·exact .inr hx.2
  have g5':∀(j:Nat) (r:Rec),recs[j]?=some r->j≠p->(⟨0+j,r.rd,keys r.wr⟩:TE)∈trf\/(r.rd=[]/\r.wr=[]):=g5;have F:DrawFacts P n s.nb ops recs { s with nb:=s.nb+8*ops.length } (λj=>j<p\/(p<j/\(getN (kS ops []) (0+j)).testBit (0+p)=false)):=by
   refine⟨g1,rfl,λj o r N X=>?_,λj o e N he u=>?_,λi j x y Y hx hy=>?_,λi j x y Y hx hy=>?_⟩
   ·obtain⟨p1,p2⟩:=g6 j o r N X;have e:=rr recs 0 j { s with nb:=s.nb+8*ops.length };simp only[cK]at e p2 ⊢;exact⟨λt U=>p1▸U,λhc=>(p2 hc).eqv e⟩
   ·have:=kh ops 0 hb1 j o e N he u;omega
   ·have:=nF (masks:=kS ops []) ops [] hb2 i j x y (by simpa using Y) (by simpa using hx) hy;simp only[cE,cK]at this;exact this.imp (g j i) λh=>h
   ·by_cases G:i=p
    ·
     subst G;rw[gr]at hx;cases hx;rcases A j y hy (by omega)with⟨h,_⟩ | h
     ·omega
     ·exact .inr (by simp[gw,h,keys])
    ·by_cases I:j=p
     ·subst I;rw[gr]at hy;cases hy;rcases A i x hx G with⟨_,h⟩ | h
      ·exact .inl h
      ·exact .inr (by simp[gw,h,keys])
     ·exact C trf x y i j K Y (g5 i x hx G) (g5 j y hy I)
  have c:Eqv ((recs.take p).foldl St.put { s with nb:=s.nb+8*ops.length }) (appD 0 recs (λm=>decide (m<p)) { s with nb:=s.nb+8*ops.length }):=by
   have e:=rr recs 0 p { s with nb:=s.nb+8*ops.length };simpa using e
  have hdead:∀j,j<ops.length->j≠p->(j<p\/(p<j/\(getN (kS ops []) (0+j)).testBit (0+p)=false))\/Must ops p j:=by
   intro j _ hne;cases u:(getN (kS ops []) (0+j)).testBit (0+p)with
   | false=>exact .inl ((Nat.lt_or_gt_of_ne hne).imp (λh=>h) λh=>⟨h,rfl⟩)
   | true=>simp only[cK]at u;exact .inr (g j p u)
  refine wp_region_any R (Qh F g0 gr (g7.eqv c) hdead (λD hD hd hn L x a' w' hv f=>⟨.pan v,_,L,⟨x,rfl,hv⟩,?inv,S⟩) _ _ ι a _ (by simp) (λj o e _ J=>by rw[M j]at J;cases J) (M p) (by rw[hno _ 0 _ _ M];exact hI1) (λi _ _ b u _=>?fresh) ?len)
  case inv=>
   have hH:∀b,look Q.H b=look (appD 0 recs D { s with nb:=s.nb+8*ops.length }).H b:=by
    intro b;rw[O.H,c.H,yC,yC];refine pZ _ 0 _ _ b _ λj r Z u=>?_;simp only[cK];by_cases I:j=p
    ·subst I;rw[gr]at Z;cases Z;rw[gw]at u;simp[keys]at u
    ·rcases A j r Z I with⟨d,hm⟩ | hm
     ·rw[hm.in hD g0 hd (by omega)];simp[d]
     ·rw[hm]at u;simp[keys]at u
   have hT:∀t v,look (Ju ops s.T) t=some (some v)->look (appD 0 recs D { s with nb:=s.nb+8*ops.length }).T t=some (some v):=by
    intro t v U;obtain⟨d,h2⟩:=vh ops t v U;rw[Az,Au _ 0 D t _ λj r Z X=>?_]
    ·exact h2
    ·exfalso;obtain⟨o,N⟩:=wO F Z;exact d o (fk N) ((F.loc j o r N Z).1 t X)
   refine⟨f.size,f.defers,λt v U=>f.tmps t v (hT t v U),⟨f.mem.inj,λb r u=>?_,f.mem.dom,λb blk hl hdd=>f.mem.blk b blk ?_ hdd⟩,?_,f.new,?_,λb r u=>?_,?_,?_⟩
   ·have:=f.mem.low b r u;have e:=O.nb.trans c.nb;rw[lQ]at e;show b<Q.nb;rw[e];exact this
   ·show look (wr++(appD 0 recs D { s with nb:=s.nb+8*ops.length }).H) b=_;rw[qo,<-hH b,<-qo];exact hl
   ·have e:=O.rb.trans c.rb;rw[yc]at e;have d:=f.ext;show ∀b q,ι0 b=some q->L b=some q\/Q.rb<=b;rw[e];simp only[St.app,yc]at d;exact d
   ·have e:=O.ro.trans c.ro;rw[jq]at e;have d:=f.fr;show Fr (roI ι0 Q.ro) w0.w w';rw[e];simp only[St.app,jq]at d;exact d
   ·have e:=O.lo.trans c.lo;rw[wM]at e;have d:=f.low b r u;show b<Q.lo;rw[e];simp only[St.app,wM]at d;exact d
   ·have e:=O.ro.trans c.ro;rw[jq]at e;have d:=f.fz;show ∀b q,L b=some (some q)->q.fz=true->b<Q.ro;rw[e];simp only[St.app,jq]at d;exact d
   ·have e:=O.ro.trans c.ro;rw[jq]at e;have d:=f.gl;show GL (roI ι0 Q.ro) w0.w;rw[e];simp only[St.app,jq]at d;exact d
  case fresh=>exact hI.fresh b (by omega)
  case len=>
   have:=AY (λi=>!Dn (Array.replicate ops.toArray.size false) i) (List.range ops.length);simpa using this
end Go.Abs
