
import Derived.Test.YtadejcglcffgbacGreatDoorAbsM
set_option linter.unusedSimpArgs false
set_option linter.unusedVariables false
set_option linter.defProp false
namespace Go.Abs
variable {P:Program}
structure Rec where
 dst:Option Nat
 val:Option V
 wr:List (Nat×Blk)
 rd:List Nat
def St.put(s:St)(r:Rec):St:=s.app r.dst r.val r.wr s.nb
def keys(wr:List (Nat×Blk)):List Nat:=wr.map (·.1)
def ly{α:Type}(l m:List (Nat×α))(n:Nat):look (l++m) n=(look l n).or (look m n):=by
 induction l with
 | nil=>rfl
 | cons x l ih=>
  obtain⟨k,v⟩:=x;rw[jX,aG,aG];split
  ·rfl
  ·exact ih
def mJ{α:Type}{l:List (Nat×α)}{n:Nat}(h:n∉l.map (·.1)):look l n=none:=by
 induction l with
 | nil=>rfl
 | cons x l ih=>
  obtain⟨k,v⟩:=x;simp only[cU,bv,not_or]at h;rw[aG,ab (λe=>h.1 e.symm)];exact ih h.2
def nc{α:Type}{l:List (Nat×α)}{n:Nat}(h:n∈l.map (·.1)):∃v,look l n=some v:=by
 induction l with
 | nil=>simp at h
 | cons x l ih=>
  obtain⟨k,v⟩:=x;rw[aG];split
  ·exact⟨v,rfl⟩
  ·rename_i a;simp only[cU,bv]at h;exact ih (h.resolve_left λe=>a e.symm)
def GH(s:St)(r:Rec)(t:Nat):look (s.put r).T t=if r.dst=some t then some r.val else look s.T t:=by
 unfold St.put St.app;cases a:r.dst with
 | none=>simp
 | some d=>
  simp only[aG];by_cases h:d=t
  ·subst h;simp
  ·simp[h]
def Gw(s:St)(r:Rec)(b:Nat):look (s.put r).H b=(look r.wr b).or (look s.H b):=ly _ _ _
def KZ(s:St)(r:Rec):(s.put r).nb=s.nb:=rfl
structure Eqv(s s':St):Prop where
 T:∀t,look s.T t=look s'.T t
 H:∀b,look s.H b=look s'.H b
 nb:s.nb=s'.nb
 lo:s.lo=s'.lo
 ro:s.ro=s'.ro
 rb:s.rb=s'.rb
def Eqv.refl(s:St):Eqv s s:=⟨λ_=>rfl,λ_=>rfl,rfl,rfl,rfl,rfl⟩
def Eqv.symm{s A:St}(h:Eqv s A):Eqv A s:=⟨λt=>(h.T t).symm,λb=>(h.H b).symm,h.nb.symm,h.lo.symm,h.ro.symm,h.rb.symm⟩
def Eqv.trans{a b c:St}(h:Eqv a b)(k:Eqv b c):Eqv a c:=⟨λt=>(h.T t).trans (k.T t),λt=>(h.H t).trans (k.H t),h.nb.trans k.nb,h.lo.trans k.lo,h.ro.trans k.ro,h.rb.trans k.rb⟩
def Eqv.put{s A:St}(h:Eqv s A)(r:Rec):Eqv (s.put r) (A.put r):=
 ⟨λt=>by rw[GH,GH,h.T],λb=>by rw[Gw,Gw,h.H],h.nb,h.lo,h.ro,h.rb⟩
def Eqv.puts:∀(l:List Rec) {s A:St},Eqv s A->Eqv (l.foldl St.put s) (l.foldl St.put A)
 | [],_,_,h=>h
 | r::l,_,_,h=>Eqv.puts l (h.put r)
def Inv.eqv{n:Nat}{ι0 ι:Inj}{w0:Base}{s C:St}{a:Act}{w:World}(h:Inv n ι0 w0 ι s a w)(e:Eqv s C):Inv n ι0 w0 ι C a w:=
 ⟨h.size,h.defers,λt v E=>h.tmps t v (by rw[e.T];exact E),⟨h.mem.inj,λb r A=>by rw[<-e.nb];exact h.mem.low b r A,h.mem.dom,λb blk G F=>h.mem.blk b blk (by rw[e.H];exact G) F⟩,by rw[<-e.rb];exact h.ext,h.new,by rw[<-e.ro];exact h.fr,λb r A=>by rw[<-e.lo];exact h.low b r A,by rw[<-e.ro];exact h.fz,by rw[<-e.ro];exact h.gl⟩
def appD:Nat->List Rec->(Nat->Bool)->St->St
 | _,[],_,s=>s
 | i,r::l,D,s=>appD (i+1) l D (if D i=true then s.put r else s)
def rP:Nat->List Rec->(Nat->Bool)->Nat->Option (Option V)->Option (Option V)
 | _,[],_,_,x=>x
 | i,r::l,D,t,x=>rP (i+1) l D t (if D i=true/\r.dst=some t then some r.val else x)
def tJ:Nat->List Rec->(Nat->Bool)->Nat->Option Blk->Option Blk
 | _,[],_,_,x=>x
 | i,r::l,D,b,x=>tJ (i+1) l D b (if D i=true then(look r.wr b).or x else x)
def uE:∀(l:List Rec) (i:Nat) (D:Nat->Bool) (s:St) (t:Nat),look (appD i l D s).T t=rP i l D t (look s.T t)
 | [],_,_,_,_=>rfl
 | r::l,i,D,s,t=>by
  simp only[appD,rP,uE l];congr 1;cases D i
  ·simp
  ·simp only[lW,be];rw[GH]
def se:∀(l:List Rec) (i:Nat) (D:Nat->Bool) (s:St) (b:Nat),look (appD i l D s).H b=tJ i l D b (look s.H b)
 | [],_,_,_,_=>rfl
 | r::l,i,D,s,b=>by
  simp only[appD,tJ,se l];congr 1;cases D i
  ·simp
  ·simp only[be];rw[Gw]
def iQ:∀(l:List Rec) (i:Nat) (D:Nat->Bool) (s:St),(appD i l D s).nb=s.nb
 | [],_,_,_=>rfl
 | r::l,i,D,s=>by
  simp only[appD,iQ l];split<;>rfl
def fR:∀(l:List Rec) (i:Nat) (D:Nat->Bool) (s:St),(appD i l D s).ro=s.ro
 | [],_,_,_=>rfl
 | r::l,i,D,s=>by
  simp only[appD,fR l];split<;>rfl
def ua:∀(l:List Rec) (i:Nat) (D:Nat->Bool) (s:St),(appD i l D s).lo=s.lo
 | [],_,_,_=>rfl
 | r::l,i,D,s=>by
  simp only[appD,ua l];split<;>rfl
def sF:∀(l:List Rec) (i:Nat) (D:Nat->Bool) (s:St),(appD i l D s).rb=s.rb
 | [],_,_,_=>rfl
 | r::l,i,D,s=>by
  simp only[appD,sF l];split<;>rfl
def ox:∀(l:List Rec) (i:Nat) (D a:Nat->Bool) (t:Nat) (x:Option (Option V)),(∀j r,l[j]?=some r->r.dst=some t->D (i+j)=a (i+j))->rP i l D t x=rP i l a t x
 | [],_,_,_,_,_,_=>rfl
 | r::l,i,D,a,t,x,h=>by
  simp only[rP];have h0:=h 0 r (by simp);simp only[eu]at h0;rw[ox l (i+1) D a t _ λj e d c=>by have:=h (j+1) e (by simpa using d) c;rwa[show i+(j+1)=i+1+j by omega]at this];congr 1;by_cases b:r.dst=some t
  ·rw[h0 b]
  ·simp[b]
def uz(l:List Rec)(i:Nat)(D:Nat->Bool)(t:Nat)(x:Option (Option V))(h:∀j r,l[j]?=some r->r.dst=some t->D (i+j)=false):rP i l D t x=x:=by
 induction l generalizing i x with
 | nil=>rfl
 | cons r l ih=>
  simp only[rP];have h0:=h 0 r (by simp);simp only[eu]at h0;have:¬(D i=true/\r.dst=some t):=λ⟨h1,h2⟩=>by rw[h0 h2]at h1;cases h1
  rw[ab this];exact ih (i+1) x λj c a b=>by have:=h (j+1) c (by simpa using a) b;rwa[show i+(j+1)=i+1+j by omega]at this
def A7:∀(l:List Rec) (i j:Nat) (D:Nat->Bool) (t:Nat) (x:Option (Option V)) (r:Rec),l[j]?=some r->D (i+j)=true->r.dst=some t->
  (∀k b,j<k->l[k]?=some b->b.dst=some t->D (i+k)=false)->rP i l D t x=some r.val
 | [],_,_,_,_,_,_,h,_,_,_=>by simp at h
 | r0::l,i,0,D,t,x,r,h,e,d,a=>by
  simp only[jr,af]at h;subst h;simp only[eu]at e;simp only[rP];rw[ad ⟨e,d⟩];exact uz l (i+1) D t _ λk b f c=>by have:=a (k+1) b (by omega) (by simpa using f) c;rwa[show i+(k+1)=i+1+k by omega]at this
 | r0::l,i,j+1,D,t,x,r,h,e,d,a=>by
  simp only[rP]
  exact A7 l (i+1) j D t _ r (by simpa using h) (by rwa[show i+1+j=i+(j+1)by omega]) d λk b f g c=>by
   have:=a (k+1) b (by omega) (by simpa using g) c;rwa[show i+(k+1)=i+1+k by omega]at this
def lK:∀(l:List Rec) (i:Nat) (D a:Nat->Bool) (b:Nat) (x:Option Blk),(∀j r,l[j]?=some r->b∈keys r.wr->D (i+j)=a (i+j))->tJ i l D b x=tJ i l a b x
 | [],_,_,_,_,_,_=>rfl
 | r::l,i,D,a,b,x,h=>by
  simp only[tJ];have h0:=h 0 r (by simp);simp only[eu]at h0;rw[lK l (i+1) D a b _ λj f e d=>by have:=h (j+1) f (by simpa using e) d;rwa[show i+(j+1)=i+1+j by omega]at this];congr 1;by_cases c:b∈keys r.wr
  ·rw[h0 c]
  ·simp[mJ c]
def CL(l:List Rec)(i:Nat)(D:Nat->Bool)(b:Nat)(x:Option Blk)(h:∀j r,l[j]?=some r->b∈keys r.wr->D (i+j)=false):tJ i l D b x=x:=by
 induction l generalizing i x with
 | nil=>rfl
 | cons r l ih=>
  simp only[tJ];have h0:=h 0 r (by simp);simp only[eu]at h0;have:(if D i=true then(look r.wr b).or x else x)=x:=by
   by_cases a:b∈keys r.wr
   ·rw[h0 a];simp
   ·rw[mJ a];simp
  rw[this];exact ih (i+1) x λj e c d=>by have:=h (j+1) e (by simpa using c) d;rwa[show i+(j+1)=i+1+j by omega]at this
def zX:∀(l:List Rec) (i j:Nat) (D:Nat->Bool) (b:Nat) (x:Option Blk) (r:Rec),l[j]?=some r->D (i+j)=true->b∈keys r.wr->
  (∀k c,j<k->l[k]?=some c->b∈keys c.wr->D (i+k)=false)->tJ i l D b x=look r.wr b
 | [],_,_,_,_,_,_,h,_,_,_=>by simp at h
 | r0::l,i,0,D,b,x,r,h,f,e,a=>by
  simp only[jr,af]at h;subst h;simp only[eu]at f;simp only[tJ];obtain⟨v,m⟩:=nc e;rw[ad f,m];exact CL l (i+1) D b _ λk c g d=>by have:=a (k+1) c (by omega) (by simpa using g) d;rwa[show i+(k+1)=i+1+k by omega]at this
 | r0::l,i,j+1,D,b,x,r,h,f,e,a=>by
  simp only[tJ]
  exact zX l (i+1) j D b _ r (by simpa using h) (by rwa[show i+1+j=i+(j+1)by omega]) e λk c g n d=>by
   have:=a (k+1) c (by omega) (by simpa using n) d;rwa[show i+(k+1)=i+1+k by omega]at this
def mP:∀(l:List Rec) (i j:Nat) (s:St),Eqv ((l.take j).foldl St.put s) (appD i l (λm=>decide (m<i+j)) s)
 | [],i,j,s=>by simp[appD];exact Eqv.refl s
 | r::l,i,0,s=>by
  have:∀(l:List Rec) (i a:Nat) (s:St),i<=a->appD a l (λm=>decide (m<i)) s=s:=by
   intro l
   induction l with
   | nil=>intros;rfl
   | cons r l ih=>intro i a s h;simp only[appD,show¬a<i by omega,lC,cb,aD];exact ih i (a+1) s (by omega)
  simp only[kR,Ab,eu];rw[this (r::l) i i s (aI _)];exact Eqv.refl s
 | r::l,i,j+1,s=>by
  simp only[mC,qO,appD,show i<i+(j+1)by omega,lZ,be];have:=mP l (i+1) j (s.put r);rwa[show(λm=>decide (m<i+1+j))=λm=>decide (m<i+(j+1))by funext m;simp only[sX];omega]at this
def wz:∀(l:List Rec) (i:Nat) (D:Nat->Bool) (s:St),(∀j,j<l.length->D (i+j)=true)->appD i l D s=l.foldl St.put s
 | [],_,_,_,_=>rfl
 | r::l,i,D,s,h=>by
  have h0:=h 0 (by simp);simp only[eu]at h0;simp only[appD,h0,be,qO];exact wz l (i+1) D _ λj a=>by have:=h (j+1) (by simpa using a);rwa[show i+(j+1)=i+1+j by omega]at this
def pP(P:Program)(n nb0:Nat)(ops:List Oper)(i:Nat)(o:Oper)(r:Rec)(base:St):Prop:=
 ∀c:St,(∀t∈o.looksAt ops.toArray,look c.T t=look base.T t)->(∀b∈r.rd,look c.H b=look base.H b)->c.nb=base.nb->c.ro=base.ro->
  ∀(ι0:Inj) (w0:Base) (ι:Inj) (a:Act) (w:World),Inv n ι0 w0 ι c a w->(∀b,nb0+8*i<=b->b<nb0+8*i+8->ι b=none)->∀(K:Act->World->Prop) (Q:Exit->Act->World->Prop),
   (∀d e w',(∀b,(b<nb0+8*i\/nb0+8*i+8<=b)->d b=ι b)->Inv n ι0 w0 d (c.put r) e w'->K e w')->
   if Region.wanted o (yielded ops.toArray a.tmps)then o.wp P a w K Q else K (a.put o.dst undef) w
def vd(P:Program)(n nb0:Nat)(ops:List Oper)(i:Nat)(o:Oper)(v:V)(wr:List (Nat×Blk))(rd:List Nat)(base:St):Prop:=
 ∀c:St,(∀t∈o.looksAt ops.toArray,look c.T t=look base.T t)->(∀b∈rd,look c.H b=look base.H b)->c.nb=base.nb->c.ro=base.ro->
  ∀(ι0:Inj) (w0:Base) (ι:Inj) (a:Act) (w:World),Inv n ι0 w0 ι c a w->(∀b,nb0+8*i<=b->b<nb0+8*i+8->ι b=none)->∀(K:Act->World->Prop) (Q:Exit->Act->World->Prop),
   (∀d x w',VR d v x->Inv n ι0 w0 d (c.app none none wr c.nb) a w'->Q (.panic [{ v:=x,recovered:=false }]) a w')->
   Region.wanted o (yielded ops.toArray a.tmps)=true/\o.wp P a w K Q
def vd.eqv{n nb0:Nat}{ops:List Oper}{i:Nat}{o:Oper}{v:V}{wr:List (Nat×Blk)}{rd:List Nat}{base A:St}(h:vd P n nb0 ops i o v wr rd base)(e:Eqv base A):vd P n nb0 ops i o v wr rd A:=
 λC h1 h2 J F=>h C (λt G=>by rw[h1 t G,e.T]) (λb E=>by rw[h2 b E,e.H]) (by rw[J,e.nb]) (by rw[F,e.ro])
def pP.eqv{n nb0:Nat}{ops:List Oper}{i:Nat}{o:Oper}{r:Rec}{base A:St}(h:pP P n nb0 ops i o r base)(e:Eqv base A):pP P n nb0 ops i o r A:=
 λC h1 h2 J F=>h C (λt G=>by rw[h1 t G,e.T]) (λb E=>by rw[h2 b E,e.H]) (by rw[J,e.nb]) (by rw[F,e.ro])
def uC{α:Type}{ops:List Oper}{o:Oper}{s:St}{k:Bool->St->Option α}{z:α}(h:tA ops o s k=some z):
  ∃c v,k c v=some z/\Eqv v s/\∀q:St,(∀t∈o.looksAt ops.toArray,look q.T t=look s.T t)->∀(n:Nat) (ι0 ι:Inj) (w0:Base) (a:Act) (w:World),Inv n ι0 w0 ι q a w->
   Region.wanted o (yielded ops.toArray a.tmps)=c:=by
 unfold tA at h;split at h
 ·rename_i m;exact⟨true,s,h,Eqv.refl s,λ_ _ _ _ _ _ _ _ _=>by simp[Region.wanted,m]⟩
 ·rename_i j c m;split at h
  case h_2=>cases h
  rename_i d l;have f:d∈o.looksAt ops.toArray:=by
   unfold Oper.looksAt;unfold gtmp at l;split at l
   ·rename_i B u;simp[m,u,l]
   ·cases l
  have again:∀x,look s.T d=some (some (.b x))->Eqv { s with T:=(d,some (V.b x))::s.T } s:=by
   intro x i;refine⟨λt=>?_,λ_=>rfl,rfl,rfl,rfl,rfl⟩;show look ((d,some (V.b x))::s.T) t=look s.T t;rw[aG];split
   ·rename_i e;subst e;exact i.symm
   ·rfl
  split at h
  ·rename_i x i;cases x
   ·refine⟨!c,_,h,again _ i,λq p n ι0 ι w0 a w r=>?_⟩;obtain⟨y,h1,h2⟩:=r.tmps d _ (by rw[p d f];exact i);simp only[VR]at h2;subst h2;have g:=nB l a.tmps;rw[h1]at g;cases c<;>simp[Region.wanted,m,g]
   ·refine⟨c,_,h,again _ i,λq p n ι0 ι w0 a w r=>?_⟩;obtain⟨y,h1,h2⟩:=r.tmps d _ (by rw[p d f];exact i);simp only[VR]at h2;subst h2;have g:=nB l a.tmps;rw[h1]at g;cases c<;>simp[Region.wanted,m,g]
  ·rename_i i;refine⟨false,s,h,Eqv.refl s,λq p n ι0 ι w0 a w r=>?_⟩;obtain⟨y,h1,h2⟩:=r.tmps d _ (by rw[p d f];exact i);simp only[VR]at h2;obtain⟨A,rfl,_⟩:=h2;have g:=nB l a.tmps;rw[h1]at g;simp[Region.wanted,m,g]
  ·cases h
def sN{ops:Array Oper}{o:Oper}{s a:St}(h:∀t∈o.looksAt ops,look a.T t=look s.T t):∀x∈o.op.operands.toList,opd a.T x=opd s.T x:=by
 intro x b;cases x with
 | tmp t=>
  have:=h t (by
   unfold Oper.looksAt;simp only[kn,List.mem_filterMap];exact .inl ⟨.tmp t,b,rfl⟩)
  simp only[opd,this]
 | _=>rfl
def FV{α:Type}{E:List Ent}(hE:∀x∈E,cN P x){n nb0:Nat}{ops:List Oper}{masks:List Nat}{p:Nat}{k:List TE->Option α}{z:α}:∀(l:List Oper) (i:Nat) (s:St) (tr:List TE),
  nb0+8*(i+l.length)<=s.nb->runB P E n nb0 ops masks p i l s tr k=some z->
  ∃(recs:List Rec) (trf:List TE),recs.length=l.length/\k trf=some z/\(∀x∈tr,x∈trf)/\
   (∀j r,recs[j]?=some r->(⟨i+j,r.rd,keys r.wr⟩:TE)∈trf\/(r.rd=[]/\r.wr=[]))/\
   ∀(j:Nat) (o:Oper) (r:Rec),l[j]?=some o->recs[j]?=some r->r.dst=o.dst/\((getN masks (i+j)).testBit p=false->pP P n nb0 ops (i+j) o r ((recs.take j).foldl St.put s))
 | [],i,s,tr,F,h=>⟨[],tr,rfl,h,λ_ h=>h,λj r h=>by simp at h,λj o r h=>by simp at h⟩
 | o::l,i,s,tr,F,h=>by
  simp only[bp]at F;simp only[runB]at h;have more:∀(e:Rec) (d:List TE) (I:St),e.dst=o.dst->((getN masks i).testBit p=false->pP P n nb0 ops i o e s)->Eqv I (s.put e)->s.nb<=I.nb->(∀x∈tr,x∈d)->((⟨i,e.rd,keys e.wr⟩:TE)∈d\/(e.rd=[]/\e.wr=[]))->
    runB P E n nb0 ops masks p (i+1) l I d k=some z->∃(recs:List Rec) (trf:List TE),recs.length=(o::l).length/\k trf=some z/\(∀x∈tr,x∈trf)/\
   (∀j r,recs[j]?=some r->(⟨i+j,r.rd,keys r.wr⟩:TE)∈trf\/(r.rd=[]/\r.wr=[]))/\
   ∀(j:Nat) (D:Oper) (r:Rec),(o::l)[j]?=some D->recs[j]?=some r->r.dst=D.dst/\((getN masks (i+j)).testBit p=false->pP P n nb0 ops (i+j) D r ((recs.take j).foldl St.put s)):=by
   intro e d I U hl e2 hnb2 R W h;obtain⟨recs,trf,g1,g2,g4,g5,g6⟩:=FV hE l (i+1) I d (by omega) h;refine⟨e::recs,trf,by simp[g1],g2,λx V=>g4 x (R x V),λj r m=>?_,λj D r M m=>?_⟩
   ·cases j with
    | zero=>simp only[jr,af]at m;subst m;exact W.imp (g4 _) id
    | succ j=>have:=g5 j r (by simpa using m);rwa[show i+1+j=i+(j+1)by omega]at this
   ·cases j with
    | zero=>
     simp only[jr,af]at M m;subst M m;exact⟨U,hl⟩
    | succ j=>
     obtain⟨p1,p2⟩:=g6 j D r (by simpa using M) (by simpa using m);rw[show i+1+j=i+(j+1)by omega]at p2;exact⟨p1,λq=>(p2 q).eqv (by simpa using Eqv.puts (recs.take j) e2)⟩
  split at h
  ·rename_i y;exact more ⟨o.dst,none,[],[]⟩ tr (s.app o.dst none [] s.nb) rfl (λq=>by rw[y]at q;cases q) (Eqv.refl _) (aI _) (λ_ h=>h) (.inr ⟨rfl,rfl⟩) h
  obtain⟨G,B,h,u,hw⟩:=uC h;have c:B.nb=s.nb:=u.nb;cases G
  ·simp only at h;split at h
   case h_2=>cases h
   rename_i U;refine more ⟨o.dst,some (.tp []),[],[]⟩ tr (B.app o.dst (some (.tp [])) [] B.nb) rfl (λ_ L J Z Y X ι0 w0 ι a w C A K Q N=>?_) (u.put ⟨o.dst,some (.tp []),[],[]⟩) (sJ c.symm) (λ_ h=>h) (.inr ⟨rfl,rfl⟩) h;rw[hw L J n ι0 ι w0 a w C];simp only[cb,aD];exact N ι _ _ (λ_ _=>rfl) (C.skip U)
  ·simp only at h;rcases xO hE (by omega) h with⟨val,wr,rd,g,S,f⟩ | ⟨v,wr,rd,S,f⟩
   ·refine more ⟨o.dst,val,wr,rd⟩ (⟨i,rd,keys wr⟩::tr) (B.app o.dst val wr B.nb) rfl (λ_ L J Z Y X ι0 w0 ι a w C A K Q N=>?_) (u.put ⟨o.dst,val,wr,rd⟩) (sJ c.symm) (λx V=>fE _ V) (.inl (by simp[keys])) S;rw[hw L J n ι0 ι w0 a w C];simp only[be];refine f L (sN λt ht=>by rw[J t ht,u.T]) (λb q=>by rw[Z b q,u.H]) (by rw[Y,c]) (by rw[X,u.ro]) ι0 w0 ι a w C (by simpa using A) K Q λO a' w' z1 z2=>N O a' w' (by simpa using z1) z2
   ·cases S
def vW {α:Type} {E:List Ent} (hE:∀x∈E,cN P x) {n nb0:Nat} {ops:List Oper} {masks:List Nat} {k:St->List TE->Option α} {kp:Nat->V->St->List TE->Option α} {z:α}:∀(l:List Oper) (i:Nat) (s:St) (tr:List TE),
  nb0+8*(i+l.length)<=s.nb->runD P E n nb0 ops masks kp i l s tr k=some z->
  (∃(recs:List Rec) (d:St) (trf:List TE),recs.length=l.length/\k d trf=some z/\Eqv d (recs.foldl St.put s)/\(∀x∈tr,x∈trf)/\
   (∀j r,recs[j]?=some r->(⟨i+j,r.rd,keys r.wr⟩:TE)∈trf\/(r.rd=[]/\r.wr=[]))/\
   ∀(j:Nat) (o:Oper) (r:Rec),l[j]?=some o->recs[j]?=some r->r.dst=o.dst/\pP P n nb0 ops (i+j) o r ((recs.take j).foldl St.put s))\/
  (∃(p:Nat) (op:Oper) (recs:List Rec) (d:St) (L:St) (trf:List TE) (v:V) (wr:List (Nat×Blk)) (m:Rec),recs.length=l.length/\l[p]?=some op/\recs[p]?=some m/\m.dst=op.dst/\m.wr=[]/\L=d.app none none wr d.nb/\kp (i+p) v L trf=some z/\Eqv d ((recs.take p).foldl St.put s)/\(∀x∈tr,x∈trf)/\
   vd P n nb0 ops (i+p) op v wr m.rd ((recs.take p).foldl St.put s)/\
   (∀j r,recs[j]?=some r->j≠p->(⟨i+j,r.rd,keys r.wr⟩:TE)∈trf\/(r.rd=[]/\r.wr=[]))/\
   ∀(j:Nat) (o:Oper) (r:Rec),l[j]?=some o->recs[j]?=some r->r.dst=o.dst/\((j<p\/(p<j/\(getN masks (i+j)).testBit (i+p)=false))->pP P n nb0 ops (i+j) o r ((recs.take j).foldl St.put s)))
 | [],i,s,tr,hnb,h=>.inl ⟨[],s,tr,rfl,h,Eqv.refl s,λ_ h=>h,λj r h=>by simp at h,λj o r h=>by simp at h⟩
 | o::l,i,s,tr,hnb,h=>by
  simp only [bp] at hnb;simp only [runD] at h;obtain ⟨want,F,h,y,hw⟩:=uC h;have e:F.nb=s.nb:=y.nb;have more:∀(B:Rec) (u:List TE) (s2:St),B.dst=o.dst->pP P n nb0 ops i o B s->Eqv s2 (s.put B)->s.nb<=s2.nb->(∀x∈tr,x∈u)->((⟨i,B.rd,keys B.wr⟩:TE)∈u\/(B.rd=[]/\B.wr=[]))->
    runD P E n nb0 ops masks kp (i+1) l s2 u k=some z->
    (∃(recs:List Rec) (d:St) (trf:List TE),recs.length=(o::l).length/\k d trf=some z/\Eqv d (recs.foldl St.put s)/\(∀x∈tr,x∈trf)/\
   (∀j r,recs[j]?=some r->(⟨i+j,r.rd,keys r.wr⟩:TE)∈trf\/(r.rd=[]/\r.wr=[]))/\
   ∀(j:Nat) (f:Oper) (r:Rec),(o::l)[j]?=some f->recs[j]?=some r->r.dst=f.dst/\pP P n nb0 ops (i+j) f r ((recs.take j).foldl St.put s))\/
    (∃(p:Nat) (op:Oper) (recs:List Rec) (d:St) (L:St) (trf:List TE) (v:V) (wr:List (Nat×Blk)) (m:Rec),recs.length=(o::l).length/\(o::l)[p]?=some op/\recs[p]?=some m/\m.dst=op.dst/\m.wr=[]/\L=d.app none none wr d.nb/\kp (i+p) v L trf=some z/\Eqv d ((recs.take p).foldl St.put s)/\(∀x∈tr,x∈trf)/\
   vd P n nb0 ops (i+p) op v wr m.rd ((recs.take p).foldl St.put s)/\
   (∀j r,recs[j]?=some r->j≠p->(⟨i+j,r.rd,keys r.wr⟩:TE)∈trf\/(r.rd=[]/\r.wr=[]))/\
   ∀(j:Nat) (f:Oper) (r:Rec),(o::l)[j]?=some f->recs[j]?=some r->r.dst=f.dst/\((j<p\/(p<j/\(getN masks (i+j)).testBit (i+p)=false))->pP P n nb0 ops (i+j) f r ((recs.take j).foldl St.put s))):=by
   intro B u s2 hd hl J hnb2 Z hte h;rcases vW hE l (i+1) s2 u (by omega) h with ⟨recs,d,trf,g1,O,g3,M,Y,g6⟩ | ⟨p,op,recs,d,L,trf,v,wr,m,g1,g0,gr,gd,gw,gs,O,g3,M,g7,Y,g6⟩
   ·refine .inl ⟨B::recs,d,trf,by simp [g1],O,g3.trans (Eqv.puts recs J),λx hx=>M x (Z x hx),λj r c=>?_,λj f r q c=>?_⟩
    ·cases j with
     | zero=>simp only [jr,af] at c;subst c;exact hte.imp (M _) id
     | succ j=>have:=Y j r (by simpa using c);rwa [show i+1+j=i+(j+1) by omega] at this
    ·cases j with
     | zero=>
      simp only [jr,af] at q c;subst q c;exact ⟨hd,hl⟩
     | succ j=>
      obtain ⟨W,I⟩:=g6 j f r (by simpa using q) (by simpa using c);rw [show i+1+j=i+(j+1) by omega] at I;exact ⟨W,I.eqv (by simpa using Eqv.puts (recs.take j) J)⟩
   ·rw [show i+1+p=i+(p+1) by omega] at O g7;refine .inr ⟨p+1,op,B::recs,d,L,trf,v,wr,m,by simp [g1],by simpa using g0,by simpa using gr,gd,gw,gs,O,g3.trans (by simpa using Eqv.puts (recs.take p) J),λx hx=>M x (Z x hx),g7.eqv (by simpa using Eqv.puts (recs.take p) J),λj r c hjp=>?_,λj f r q c=>?_⟩
    ·cases j with
     | zero=>simp only [jr,af] at c;subst c;exact hte.imp (M _) id
     | succ j=>have:=Y j r (by simpa using c) (by omega);rwa [show i+1+j=i+(j+1) by omega] at this
    ·cases j with
     | zero=>
      simp only [jr,af] at q c;subst q c;exact ⟨hd,λ_=>hl⟩
     | succ j=>
      obtain ⟨W,I⟩:=g6 j f r (by simpa using q) (by simpa using c);rw [show i+1+j=i+(j+1) by omega,show i+1+p=i+(p+1) by omega] at I;exact ⟨W,λhc=>(I (hc.imp (λh=>by omega) λh=>⟨by omega,h.2⟩)).eqv (by simpa using Eqv.puts (recs.take j) J)⟩
  cases want
  ·simp only at h;split at h
   case h_2=>cases h
   rename_i hd;refine more ⟨o.dst,some (.tp []),[],[]⟩ tr (F.app o.dst (some (.tp [])) [] F.nb) rfl (λN D U S R ι0 w0 ι a w G C K Q X=>?_) (y.put ⟨o.dst,some (.tp []),[],[]⟩) (sJ e.symm) (λ_ h=>h) (.inr ⟨rfl,rfl⟩) h;rw [hw N D n ι0 ι w0 a w G];simp only [cb,aD];exact X ι _ _ (λ_ _=>rfl) (G.skip hd)
  ·simp only at h;rcases xO hE (by omega) h with ⟨val,wr,rd,g,hk,A⟩ | ⟨v,wr,rd,hk,A⟩
   ·refine more ⟨o.dst,val,wr,rd⟩ (⟨i,rd,keys wr⟩::tr) (F.app o.dst val wr F.nb) rfl (λN D U S R ι0 w0 ι a w G C K Q X=>?_) (y.put ⟨o.dst,val,wr,rd⟩) (sJ e.symm) (λx hx=>fE _ hx) (.inl (by simp [keys])) hk;rw [hw N D n ι0 ι w0 a w G];simp only [be];refine A N (sN λt ht=>by rw [D t ht,y.T]) (λb hb=>by rw [U b hb,y.H]) (by rw [S,e]) (by rw [R,y.ro]) ι0 w0 ι a w G (by simpa using C) K Q λι' a' w' z1 z2=>X ι' a' w' (by simpa using z1) z2
   ·obtain ⟨recs,trf,g1,O,M,Y,g6⟩:=FV hE l (i+1) _ tr (by simp only [St.app];omega) hk;have J:Eqv (F.app o.dst none [] F.nb) (s.put ⟨o.dst,none,[],rd⟩):=y.put ⟨o.dst,none,[],rd⟩;refine .inr ⟨0,o,⟨o.dst,none,[],rd⟩::recs,F,_,trf,v,wr,⟨o.dst,none,[],rd⟩,by simp [g1],rfl,rfl,rfl,rfl,rfl,O,y,M,λN D U S R ι0 w0 ι a w G C K Q X=>?_,λj r c hjp=>?_,λj f r q c=>?_⟩
    ·simp only [kR,Ab] at D U S R;exact ⟨hw N D n ι0 ι w0 a w G,A N (sN λt ht=>by rw [D t ht,y.T]) (λb hb=>by rw [U b hb,y.H]) (by rw [S,e]) (by rw [R,y.ro]) ι0 w0 ι a w G (by simpa using C) K Q X⟩
    ·cases j with
     | zero=>exact absurd rfl hjp
     | succ j=>have:=Y j r (by simpa using c);rwa [show i+1+j=i+(j+1) by omega] at this
    ·cases j with
     | zero=>
      simp only [jr,af] at q c;subst q c;exact ⟨rfl,λh=>by omega⟩
     | succ j=>
      obtain ⟨W,I⟩:=g6 j f r (by simpa using q) (by simpa using c);rw [show i+1+j=i+(j+1) by omega] at I;refine ⟨W,λhc=>(I ?_).eqv (by simpa using Eqv.puts (recs.take j) J)⟩;rcases hc with hc | hc
      ·omega
      ·exact hc.2
def Down(ops:List Oper)(D:Nat->Bool):Prop:=∀j o e,ops[j]?=some o->D j=true->e∈o.after.toList->Region.binds .any e=true->D e.on=true
def Must(ops:List Oper)(i j:Nat):Prop:=∀D,Down ops D->D j=true->D i=true
def Dn(a:Array Bool):Nat->Bool:=λi=>a.getD i false
structure DrawFacts(P:Program)(n nb0:Nat)(ops:List Oper)(recs:List Rec)(s0:St)(live:Nat->Prop):Prop where
 len:recs.length=ops.length
 nb:s0.nb=nb0+8*ops.length
 loc:∀(j:Nat) (o:Oper) (r:Rec),ops[j]?=some o->recs[j]?=some r->(∀t,r.dst=some t->o.dst=some t)/\(live j->pP P n nb0 ops j o r (appD 0 recs (λm=>decide (m<j)) s0))
 down:∀(j:Nat) (o:Oper) (e:Edge),ops[j]?=some o->e∈o.after.toList->Region.binds .any e=true->e.on<j
 apart:∀(i j:Nat) (x y:Oper),i<j->ops[i]?=some x->ops[j]?=some y->Must ops i j\/x.apart ops.toArray y=true
 blk:∀(i j:Nat) (x y:Rec),i<j->recs[i]?=some x->recs[j]?=some y->Must ops i j\/((∀b∈keys x.wr,b∉y.rd/\b∉keys y.wr)/\∀b∈x.rd,b∉keys y.wr)
def oQ{ops:List Oper}{a:Array Bool}{i:Nat}(g:a.size=ops.length)(h:i∈Region.ready .any ops.toArray a):
  ∃o,ops[i]?=some o/\i<ops.length/\Dn a i=false/\∀e∈o.after.toList,Region.binds .any e=true->Dn a e.on=true:=by
 unfold Region.ready at h;simp only[iU,iN,aw,sG]at h;obtain⟨h1,h2,c⟩:=h;have b:ops[i]?=some ops[i]:=by simp[h1]
 refine⟨ops[i],b,h1,?_,λe d f=>?_⟩
 ·unfold Dn;have:i<a.size:=by omega
  simp only[mV,Nq this,wM]at h2 ⊢;simpa using h2
 ·simp only[List.getElem?_toArray,b,dB,wM]at c;have:=(Array.all_eq_true'.1 c) e (by simpa using d);simp only[f,da,vk]at this;exact this
def wv{ops:List Oper}{a:Array Bool}{i:Nat}{o:Oper}(j:a.size=ops.length)(d:ops[i]?=some o)(c:Dn a i=false)
  (h:∀e∈o.after.toList,Region.binds .any e=true->Dn a e.on=true):i∈Region.ready .any ops.toArray a:=by
 have hi:i<ops.length:=by
  rcases aA i ops.length with b | b
  ·exact b
  ·rw[ec b]at d;cases d
 unfold Region.ready;simp only[iU,iN,aw,sG];refine⟨hi,?_,?_⟩
 ·have:i<a.size:=by omega
  unfold Dn at c;simp only[mV,Nq this,wM]at c ⊢;simp[c]
 ·simp only[List.getElem?_toArray,d,dB,wM];refine Array.all_eq_true'.2 λe f=>?_;cases g:Region.binds .any e with
  | false=>rfl
  | true=>
   have:=h e (by simpa using f) g;unfold Dn at this;simpa using this
def uJ{a:Array Bool}{i:Nat}(h:i<a.size)(j:Nat):Dn (a.setIfInBounds i true) j=if j=i then true else Dn a j:=by
 unfold Dn;simp only[mV];rw[JC];by_cases b:i=j
 ·subst b;simp[h]
 ·simp[b,show¬j=i fromλe=>b e.symm]
def Down.add{ops:List Oper}{D:Nat->Bool}(h:Down ops D){i:Nat}{o:Oper}(K:ops[i]?=some o)(M:∀e∈o.after.toList,Region.binds .any e=true->D e.on=true):
  Down ops λj=>if j=i then true else D j:=by
 intro j J e C G E F;show(if e.on=i then true else D e.on)=true;by_cases A:j=i
 ·subst A;rw[K]at C;cases C;have:=M e E F;split
  ·rfl
  ·exact this
 ·simp only[A,aD]at G;have:=h j J e C G E F;split
  ·rfl
  ·exact this
def Must.in{ops:List Oper}{D:Nat->Bool}(h:Down ops D){i k:Nat}{o:Oper}(E:ops[i]?=some o)(C:∀e∈o.after.toList,Region.binds .any e=true->D e.on=true)
  (hm:Must ops k i) (A:k≠i):D k=true:=by
 have:=hm _ (h.add E C) (by simp);simpa[A]using this
section
variable {n nb0:Nat} {ops:List Oper} {recs:List Rec} {s0:St} {live:Nat->Prop} (F:DrawFacts P n nb0 ops recs s0 live)
include F
def sc{i:Nat}{o:Oper}(h:ops[i]?=some o):∃r,recs[i]?=some r:=by
 have hi:i<ops.length:=by
  rcases aA i ops.length with h' | h'
  ·exact h'
  ·rw[ec h']at h;cases h
 exact⟨recs[i]'(by rw[F.len];exact hi),by simp[F.len,hi]⟩
def sQ{i:Nat}{r:Rec}(h:recs[i]?=some r):∃o,ops[i]?=some o:=by
 have hi:i<recs.length:=by
  rcases aA i recs.length with h' | h'
  ·exact h'
  ·rw[ec h']at h;cases h
 exact⟨ops[i]'(by rw[<-F.len];exact hi),by simp[F.len▸hi]⟩
def wo{D:Nat->Bool}(s:Down ops D){i:Nat}{o:Oper}(h:ops[i]?=some o)(p:D i=false)(v:∀e∈o.after.toList,Region.binds .any e=true->D e.on=true)
  {t:Nat} (q:t∈o.looksAt ops.toArray):look (appD 0 recs D s0).T t=look (appD 0 recs (λm=>decide (m<i)) s0).T t:=by
 rw[uE,uE];refine ox recs 0 _ _ t _ λj r n u=>?_;simp only[ci];obtain⟨k,c⟩:=sQ F n;have a:=((F.loc j k r c n).1 t u).symm;rcases zE j i with d | g | f
 ·have h1:D j=true:=by
   rcases F.apart j i k o d c h with hm | b
   ·exact hm.in s h v (by omega)
   ·exact absurd q ((zi b).1 t a.symm)
  rw[h1];simp[d]
 ·subst g;simp[p]
 ·have h1:D j=false:=by
   rcases F.apart i j o k f h c with hm | b
   ·cases l:D j with
    | false=>rfl
    | true=>have:=hm D s l;rw[p]at this;cases this
   ·exact absurd q ((zi b).2.2 t a.symm)
  rw[h1];simp;omega
def vT{D:Nat->Bool}(h:Down ops D){i:Nat}{o:Oper}{r:Rec}(t:ops[i]?=some o)(k:recs[i]?=some r)(p:D i=false)
  (u:∀e∈o.after.toList,Region.binds .any e=true->D e.on=true) {b:Nat} (n:b∈r.rd):look (appD 0 recs D s0).H b=look (appD 0 recs (λm=>decide (m<i)) s0).H b:=by
 rw[se,se];refine lK recs 0 _ _ b _ λj q l s=>?_;simp only[ci];rcases zE j i with c | f | d
 ·have h1:D j=true:=by
   rcases F.blk j i q r c l k with hm | a
   ·exact hm.in h t u (by omega)
   ·exact absurd n (a.1 b s).1
  rw[h1];simp[c]
 ·subst f;simp[p]
 ·have h1:D j=false:=by
   rcases F.blk i j r q d k l with hm | a
   ·cases g:D j with
    | false=>rfl
    | true=>have:=hm D h g;rw[p]at this;cases this
   ·exact absurd s (a.2 b n)
  rw[h1];simp;omega
def wN{D:Nat->Bool}(B:Down ops D){i:Nat}{o:Oper}{r:Rec}(z:ops[i]?=some o)(f:recs[i]?=some r)(A:D i=false):
  Eqv ((appD 0 recs D s0).put r) (appD 0 recs (λj=>if j=i then true else D j) s0):=by
 have p:=(F.loc i o r z f).1;refine⟨λt=>?_,λb=>?_,by rw[KZ,iQ,iQ],by show(appD 0 recs D s0).lo=_;rw[ua,ua],by show(appD 0 recs D s0).ro=_;rw[fR,fR],by show(appD 0 recs D s0).rb=_;rw[sF,sF]⟩
 ·rw[GH,uE,uE];by_cases l:r.dst=some t
  ·rw[ad l];symm;refine A7 recs 0 i _ t _ r f (by simp) l λk n u c s=>?_;simp only[ci,show¬k=i by omega,aD];obtain⟨ok,h⟩:=sQ F c;have q:=(F.loc k ok n h c).1;rcases F.apart i k o ok u z h with hm | d
   ·cases e:D k with
    | false=>rfl
    | true=>have:=hm D B e;rw[A]at this;cases this
   ·exact absurd (q t s) ((zi d).2.1 t (p t l))
  ·rw[ab l];refine ox recs 0 _ _ t _ λj n m w=>?_;simp only[ci];by_cases a:j=i
   ·subst a;rw[f]at m;cases m;exact absurd w l
   ·simp[a]
 ·rw[Gw,se,se];by_cases g:b∈keys r.wr
  ·obtain⟨v,y⟩:=nc g;rw[y,Option.some_or];symm;rw[<-y];refine zX recs 0 i _ b _ r f (by simp) g λk n u c x=>?_;simp only[ci,show¬k=i by omega,aD];rcases F.blk i k r n u f c with hm | d
   ·cases e:D k with
    | false=>rfl
    | true=>have:=hm D B e;rw[A]at this;cases this
   ·exact absurd x (d.1 b g).2
  ·rw[mJ g,yZ];refine lK recs 0 _ _ b _ λj n m x=>?_;simp only[ci];by_cases a:j=i
   ·subst a;rw[f]at m;cases m;exact absurd x g
   ·simp[a]
def yl {kk:Nat} (C:∀j,kk<=j->j<ops.length->live j) {ι0:Inj} {w0:Base} {Q:Exit->Act->World->Prop} (T:∀ι a w,Inv n ι0 w0 ι (recs.foldl St.put s0) a w->Q .normal a w):
  ∀(fuel:Nat) (c:Array Bool) (ι:Inj) (a:Act) (w:World),c.size=ops.length->(∀j,j<kk->Dn c j=true)->Down ops (Dn c)->Inv n ι0 w0 ι (appD 0 recs (Dn c) s0) a w->
   (∀i,i<ops.length->Dn c i=false->∀b,nb0+8*i<=b->b<nb0+8*i+8->ι b=none)->((List.range ops.length).filter λi=>!Dn c i).length<=fuel->
   wpAny P .any ops.toArray Q fuel c a w:=by
 have B:∀(c:Array Bool) (ι:Inj) (a:Act) (w:World),c.size=ops.length->Inv n ι0 w0 ι (appD 0 recs (Dn c) s0) a w->Region.ready .any ops.toArray c=[]->Q .normal a w:=by
  intro c ι a w p y m;have z:∀j,j<ops.length->Dn c j=true:=by
   intro j
   induction j using Nat.strongRecOn with
   | _ j ih=>
    intro v;cases K:Dn c j with
    | true=>rfl
    | false=>
     have f:ops[j]?=some ops[j]:=by simp [v]
     have hm:=wv p f K λe O G=>ih e.on (F.down j _ e f O G) (by have:=F.down j _ e f O G;omega);rw [m] at hm;cases hm
  rw [wz recs 0 (Dn c) s0 λj v=>by simpa using z j (by rw [<-F.len];exact v)] at y;exact T ι a w y
 intro fuel
 induction fuel with
 | zero=>
  intro c ι a w p x E y s hc;have m:Region.ready .any ops.toArray c=[]:=by
   rw [List.eq_nil_iff_forall_not_mem];intro i hi;obtain ⟨o,f,g,q,_⟩:=oQ p hi;have:i∈(List.range ops.length).filter λi=>!Dn c i:=by simp [g,q]
   have:=yN this;omega
  exact ⟨m,B c ι a w p y m⟩
 | succ fuel ih=>
  intro c ι a w p x E y s hc;refine ⟨B c ι a w p y,λi hi=>?_⟩;obtain ⟨o,f,g,q,M⟩:=oQ p hi;obtain ⟨r,m⟩:=sc F f;have D:=(F.loc i o r f m).2 (C i (by rcases aA i kk with h | h;(· have:=x i h;rw [q] at this;cases this);exact h) g);have d:Dn (c.setIfInBounds i true)=λj=>if j=i then true else Dn c j:=by
   funext j;exact uJ (by omega) j
  have H:=D (appD 0 recs (Dn c) s0) (λt S=>wo F E f q M S) (λb G=>vT F E f m q M G) (by rw [iQ,iQ]) (by rw [fR,fR]) ι0 w0 ι a w y (s i g q)
   (wpAny P .any ops.toArray Q fuel (c.setIfInBounds i true)) Q λJ R w' U V=>by
    refine ih _ J R w' (by simpa using p) (λj v=>by rw [d];simp only;split;(· rfl);exact x j v) (by rw [d];exact E.add f M) (by rw [d];exact V.eqv (wN F E f m q)) (λj v l b N L=>?_) ?_
    ·rw [d] at l;by_cases k:j=i
     ·simp [k] at l
     ·simp only [k,aD] at l;rw [U b (by omega)];exact s j v l b N L
    ·have:((List.range ops.length).filter λj=>!Dn (c.setIfInBounds i true) j).length<((List.range ops.length).filter λj=>!Dn c j).length:=by
      rw [d];have A:((List.range ops.length).filter λj=>!(if j=i then true else Dn c j))=((List.range ops.length).filter λj=>!Dn c j).filter λj=>decide (j≠i):=by
       rw [Bz];congr 1;funext j;by_cases k:j=i<;>simp [k]
      rw [A];refine Aj.2 ⟨i,by simp [g,q],by simp⟩
     omega
  unfold wpOp;have I:ops.toArray[i]?=some o:=by simpa using f
  rw [I];simp only;split
  ·rename_i u;rw [ad u] at H;exact .inl H
  ·rename_i u;rw [ab u] at H;exact H
def Ir {lim kk:Nat} (G:lim<ops.length) (g:∀j,kk<=j->j<lim->live j/\Must ops j lim) (v:∀j,lim<j->j<ops.length->Must ops lim j) {ι0:Inj} {w0:Base} {Q:Exit->Act->World->Prop}
  (Y:∀(fuel:Nat) (c:Array Bool) (ι:Inj) (a:Act) (w:World),c.size=ops.length->(∀j,j<lim->Dn c j=true)->Dn c lim=false->Down ops (Dn c)->Down ops (Dn (c.setIfInBounds lim true))->
   Inv n ι0 w0 ι (appD 0 recs (Dn c) s0) a w->((List.range ops.length).filter λi=>!Dn c i).length<=fuel+1->wpOp P ops.toArray Q lim (wpAny P .any ops.toArray Q fuel (c.setIfInBounds lim true)) a w):
  ∀(fuel:Nat) (c:Array Bool) (ι:Inj) (a:Act) (w:World),c.size=ops.length->(∀j,j<kk->Dn c j=true)->Down ops (Dn c)->Dn c lim=false->Inv n ι0 w0 ι (appD 0 recs (Dn c) s0) a w->
   (∀i,i<ops.length->Dn c i=false->∀b,nb0+8*i<=b->b<nb0+8*i+8->ι b=none)->((List.range ops.length).filter λi=>!Dn c i).length<=fuel->
   wpAny P .any ops.toArray Q fuel c a w:=by
 have N:∀(c:Array Bool),c.size=ops.length->Dn c lim=false->Region.ready .any ops.toArray c=[]->False:=by
  intro c y q s;have D:∀j,j<ops.length->Dn c j=true:=by
   intro j
   induction j using Nat.strongRecOn with
   | _ j ih=>
    intro A;cases O:Dn c j with
    | true=>rfl
    | false=>
     have f:ops[j]?=some ops[j]:=by simp [A]
     have hm:=wv y f O λe V J=>ih e.on (F.down j _ e f V J) (by have:=F.down j _ e f V J;omega);rw [s] at hm;cases hm
  rw [D lim G] at q;cases q
 intro fuel
 induction fuel with
 | zero=>
  intro c ι a w y l p q T x hc;have:lim∈(List.range ops.length).filter λi=>!Dn c i:=by simp [G,q]
  have:=yN this;omega
 | succ fuel ih=>
  intro c ι a w y l p q T x hc;refine ⟨λs=>(N c y q s).elim,λi hi=>?_⟩;obtain ⟨o,f,u,B,C⟩:=oQ y hi;obtain ⟨r,s⟩:=sc F f;have d:Dn (c.setIfInBounds i true)=λj=>if j=i then true else Dn c j:=by
   funext j;exact uJ (by omega) j
  by_cases I:i=lim
  ·subst I;refine Y fuel c ι a w y (λj A=>?_) B p (by rw [d];exact p.add f C) T hc;rcases aA j kk with h | h
   ·exact l j h
   ·exact (g j h A).2.in p f C (by omega)
  have L:ops.toArray[i]?=some o:=by simpa using f
  unfold wpOp;rw [L];simp only;have hlt':i<lim:=by
   rcases aA i lim with h | h
   ·exact h
   ·have:=(v i (by omega) u).in p f C (λe=>I e.symm);rw [q] at this;cases this
  have S:kk<=i:=by
   rcases aA i kk with h | h
   ·have:=l i h;rw [B] at this;cases this
   ·exact h
  have H:=(F.loc i o r f s).2 (g i S hlt').1
  have K:=H (appD 0 recs (Dn c) s0) (λt X=>wo F p f B C X) (λb J=>vT F p f s B C J) (by rw [iQ,iQ]) (by rw [fR,fR]) ι0 w0 ι a w T (x i u B)
   (wpAny P .any ops.toArray Q fuel (c.setIfInBounds i true)) Q λM W w' Z g2=>by
    refine ih _ M W w' (by simpa using y) (λj A=>by rw [d];simp only;split;(· rfl);exact l j A) (by rw [d];exact p.add f C) (by rw [d];simp only [show ¬lim=i by omega,aD];exact q) (by rw [d];exact g2.eqv (wN F p f s B)) (λj A m b U R=>?_) ?_
    ·rw [d] at m;by_cases k:j=i
     ·simp [k] at m
     ·simp only [k,aD] at m;rw [Z b (by omega)];exact x j A m b U R
    ·have:((List.range ops.length).filter λj=>!Dn (c.setIfInBounds i true) j).length<((List.range ops.length).filter λj=>!Dn c j).length:=by
      rw [d];have E:((List.range ops.length).filter λj=>!(if j=i then true else Dn c j))=((List.range ops.length).filter λj=>!Dn c j).filter λj=>decide (j≠i):=by
       rw [Bz];congr 1;funext j;by_cases k:j=i<;>simp [k]
      rw [E];refine Aj.2 ⟨i,by simp [u,B],by simp⟩
     omega
  split
  ·rename_i z;rw [ad z] at K;exact .inl K
  ·rename_i z;rw [ab z] at K;exact K
def Il {lim:Nat} {ι0:Inj} {w0:Base} {Q:Exit->Act->World->Prop} {U:Oper} {pr:Rec} {v:V} {wr:List (Nat×Blk)} (g:ops[lim]?=some U) (I:recs[lim]?=some pr)
  (R:vd P n nb0 ops lim U v wr pr.rd (appD 0 recs (λm=>decide (m<lim)) s0))
  (A:∀j,j<ops.length->j≠lim->live j\/Must ops lim j)
  (hQ:∀D,Down ops D->(∀e∈U.after.toList,Region.binds .any e=true->D e.on=true)->D lim=false->∀ι x a w,VR ι v x->Inv n ι0 w0 ι ((appD 0 recs D s0).app none none wr s0.nb) a w->Q (.panic [{ v:=x,recovered:=false }]) a w):
  ∀(fuel:Nat) (c:Array Bool) (ι:Inj) (a:Act) (w:World),c.size=ops.length->Down ops (Dn c)->Dn c lim=false->Inv n ι0 w0 ι (appD 0 recs (Dn c) s0) a w->
   (∀i,i<ops.length->Dn c i=false->∀b,nb0+8*i<=b->b<nb0+8*i+8->ι b=none)->((List.range ops.length).filter λi=>!Dn c i).length<=fuel->
   wpAny P .any ops.toArray Q fuel c a w:=by
 have L:lim<ops.length:=by
  rcases aA lim ops.length with h' | h'
  ·exact h'
  ·rw [ec h'] at g;cases g
 have W:∀(c:Array Bool),c.size=ops.length->Dn c lim=false->Region.ready .any ops.toArray c=[]->False:=by
  intro c H y h;have J:∀j,j<ops.length->Dn c j=true:=by
   intro j
   induction j using Nat.strongRecOn with
   | _ j ih=>
    intro hj;cases X:Dn c j with
    | true=>rfl
    | false=>
     have f:ops[j]?=some ops[j]:=by simp [hj]
     have hm:=wv H f X λe he G=>ih e.on (F.down j _ e f he G) (by have:=F.down j _ e f he G;omega);rw [h] at hm;cases hm
  rw [J lim L] at y;cases y
 intro fuel
 induction fuel with
 | zero=>
  intro c ι a w H u y hI p hc;have:lim∈(List.range ops.length).filter λi=>!Dn c i:=by simp [L,y]
  have:=yN this;omega
 | succ fuel ih=>
  intro c ι a w H u y hI p hc;refine ⟨λh=>(W c H y h).elim,λi hi=>?_⟩;obtain ⟨o,f,k,q,C⟩:=oQ H hi;obtain ⟨r,h⟩:=sc F f;have S:ops.toArray[i]?=some o:=by simpa using f
  unfold wpOp;rw [S];simp only;by_cases E:i=lim
  case neg=>
   rcases A i k E with T | hm
   case inr=>
    have:=hm.in u f C (λe=>E e.symm);rw [y] at this;cases this
   have M:=(F.loc i o r f h).2 T;have d:Dn (c.setIfInBounds i true)=λj=>if j=i then true else Dn c j:=by
    funext j;exact uJ (by omega) j
   have N:=M (appD 0 recs (Dn c) s0) (λt Y=>wo F u f q C Y) (λb G=>vT F u f h q C G) (by rw [iQ,iQ]) (by rw [fR,fR]) ι0 w0 ι a w hI (p i k q)
    (wpAny P .any ops.toArray Q fuel (c.setIfInBounds i true)) Q λz a' w' g1 O=>by
     refine ih _ z a' w' (by simpa using H) (by rw [d];exact u.add f C) (by rw [d];simp only [show ¬lim=i by omega,aD];exact y) (by rw [d];exact O.eqv (wN F u f h q)) (λj hj s b hb1 Z=>?_) ?_
     ·rw [d] at s;by_cases l:j=i
      ·simp [l] at s
      ·simp only [l,aD] at s;rw [g1 b (by omega)];exact p j hj s b hb1 Z
     ·have:((List.range ops.length).filter λj=>!Dn (c.setIfInBounds i true) j).length<((List.range ops.length).filter λj=>!Dn c j).length:=by
       rw [d];have K:((List.range ops.length).filter λj=>!(if j=i then true else Dn c j))=((List.range ops.length).filter λj=>!Dn c j).filter λj=>decide (j≠i):=by
        rw [Bz];congr 1;funext j;by_cases l:j=i<;>simp [l]
       rw [K];refine Aj.2 ⟨i,by simp [k,q],by simp⟩
      omega
   split
   ·rename_i B;rw [ad B] at N;exact .inl N
   ·rename_i B;rw [ab B] at N;exact N
  case pos=>
   subst E;rw [g] at f;cases f;rw [I] at h;cases h
   obtain ⟨q1,q2⟩:=R (appD 0 recs (Dn c) s0) (λt Y=>wo F u g q C Y) (λb G=>vT F u g I q C G) (by rw [iQ,iQ]) (by rw [fR,fR]) ι0 w0 ι a w hI (p i k q)
    (wpAny P .any ops.toArray Q fuel (c.setIfInBounds i true)) Q λz x w' g1 O=>hQ _ u C q z x a w' g1 (by rw [iQ] at O;exact O)
   rw [ad q1];exact .inl q2
end
def xi:∀{l:List Nat} {j:Nat},l.length<=j->getN l j=0
 | [],_,_=>rfl
 | _::_,0,h=>by simp at h
 | _::l,j+1,h=>xi (l:=l) (by simpa using h)
def nN:∀{l m:List Nat} {j:Nat},j<l.length->getN (l++m) j=getN l j
 | [],_,_,h=>by simp at h
 | _::_,_,0,_=>rfl
 | _::l,m,j+1,h=>nN (l:=l) (m:=m) (by simpa using h)
def nS:∀(l:List Nat) (x:Nat),getN (l++[x]) l.length=x
 | [],_=>rfl
 | _::l,x=>nS l x
def oc(a:List Nat):∀(l:List Edge) (s i:Nat),(xu a l s).testBit i=true->s.testBit i=true\/∃e∈l,Region.binds .any e=true/\(e.on=i\/(getN a e.on).testBit i=true)
 | [],s,i,h=>.inl h
 | e::l,s,i,h=>by
  simp only[xu]at h;split at h
  ·rename_i d;rcases oc a l _ i h with h1 | ⟨c,b,h2⟩
   ·simp only[Nat.testBit_or,fH]at h1;rcases h1 with(h1 | h1) | h1
    ·exact .inl h1
    ·refine .inr ⟨e,by simp,d,.inl ?_⟩;rw[Nat.testBit_two_pow]at h1;simpa using h1
    ·exact .inr ⟨e,by simp,d,.inr h1⟩
   ·exact .inr ⟨c,fE _ b,h2⟩
  ·rcases oc a l _ i h with h1 | ⟨c,b,h2⟩
   ·exact .inl h1
   ·exact .inr ⟨c,fE _ b,h2⟩
def lQ(ops:List Oper):∀(r:List Oper) (a:List Nat),(∀j,r[j]?=ops[a.length+j]?)->(∀j i,(getN a j).testBit i=true->Must ops i j)->
  ∀j i,(getN (ie r a) j).testBit i=true->Must ops i j
 | [],a,_,h=>h
 | o::r,a,k,h=>by
  simp only[ie];refine lQ ops r _ (λj=>by have:=k (j+1);simp only[zI]at this;rw[this];simp;congr 1;omega) λj i b=>?_;rcases zE j a.length with d | c | m
  ·rw[nN d]at b;exact h j i b
  ·subst c;rw[nS]at b;have p:ops[a.length]?=some o:=by have:=k 0;simpa using this.symm
   rcases oc a _ _ _ b with h1 | ⟨e,n,g,h1⟩
   ·simp at h1
   ·intro D l f;have h2:=l a.length o e p f n g;rcases h1 with rfl | h1
    ·exact h2
    ·exact h e.on i h1 D l h2
  ·rw[xi (by simp;omega)]at b;simp at b
def gy:∀(l:List Oper) (i:Nat),mz i l=true->∀(j:Nat) (o:Oper) (e:Edge),l[j]?=some o->e∈o.after.toList->Region.binds .any e=true->e.on<i+j
 | [],_,_,_,_,_,h,_,_=>by simp at h
 | o::l,i,h,j,d,e,a,b,c=>by
  simp only[mz,aw,ct]at h;cases j with
  | zero=>
   simp only[jr,af]at a;subst a;have:=h.1 e b;simp only[c,da,vk]at this;exact az this
  | succ j=>have:=gy l (i+1) h.2 j d e (by simpa using a) b c;omega
def nJ{ops:Array Oper}{o:Oper}{a:Nat}:∀(l:List Oper) (i:Nat),o0 ops o a i l=true->∀(j:Nat) (p:Oper),l[j]?=some p->a.testBit (i+j)=true\/p.apart ops o=true
 | [],_,_,_,_,h=>by simp at h
 | q::l,i,h,j,p,b=>by
  simp only[o0,aw,fH]at h;cases j with
  | zero=>simp only[jr,af]at b;subst b;exact h.1
  | succ j=>have:=nJ l (i+1) h.2 j p (by simpa using b);rwa[show i+1+j=i+(j+1)by omega]at this
def jO{ops:Array Oper}{masks:List Nat}:∀(l a:List Oper),o5 ops masks a.length a l=true->∀(i j:Nat) (x y:Oper),i<a.length+j->(a++l)[i]?=some x->l[j]?=some y->
  (getN masks (a.length+j)).testBit i=true\/x.apart ops y=true
 | [],_,_,_,_,_,_,_,_,h=>by simp at h
 | o::l,a,h,i,j,x,y,hi,c,b=>by
  simp only[o5,aw]at h;cases j with
  | zero=>
   simp only[jr,af]at b;subst b;have:=nJ a 0 h.1 i x (by rw[ka (by simpa using hi)]at c;exact c);simpa using this
  | succ j=>
   have h2:=h.2;rw[show a.length+1=(a++[o]).length by simp]at h2;have:=jO l (a++[o]) h2 i j x y (by simp;omega) (by simpa using c) (by simpa using b);rwa[show(a++[o]).length+j=a.length+(j+1)by simp;omega]at this
def mK{masks:List Nat}:∀{tr:List TE},lG masks tr=true->∀x∈tr,∀y∈tr,x.i<y.i->sT masks x y=true\/sT masks y x=true
 | [],_,x,d,_,_,_=>by cases d
 | z::l,h,x,d,y,e,c=>by
  simp only[lG,aw,ct]at h;rcases bv.1 d with b | b
  ·subst b;rcases bv.1 e with a | a
   ·subst a;omega
   ·exact .inl (h.1 y a)
  ·rcases bv.1 e with a | a
   ·subst a;exact .inr (h.1 x b)
   ·exact mK h.2 x b y a c
def sV{x y:TE}(h:KD x y=false):(∀b∈x.ws,b∉y.rd/\b∉y.ws)/\∀b∈x.rd,b∉y.ws:=by
 simp only[KD,Bool.or_eq_false_iff,qM,fH,not_or,List.contains_iff_mem]at h;exact⟨λb a=>h.1 b a,λb a=>h.2 b a⟩
def xX{masks:List Nat}{x y:TE}(h:sT masks x y=true\/sT masks y x=true)(d:x.i<y.i):
  (getN masks y.i).testBit x.i=true\/((∀b∈x.ws,b∉y.rd/\b∉y.ws)/\∀b∈x.rd,b∉y.ws):=by
 have h1:Nat.blt x.i y.i=true:=dA d;have h2:Nat.blt y.i x.i=false:=by
  cases g:Nat.blt y.i x.i with
  | false=>rfl
  | true=>have:y.i<x.i:=az g;omega
 rcases h with h | h
 ·simp only[sT,h1,aj,fH,ld]at h;exact h.imp id sV
 ·simp only[sT,h2,ae,fH,ld]at h;refine h.imp id λh=>?_;obtain⟨a,b⟩:=sV h;exact⟨λc hc=>⟨λf=>b c f hc,λe=>(a c e).2 hc⟩,λc hc e=>(a c e).1 hc⟩
def qA:∀(ops:List Oper) {T:List (Nat×Option V)} (t:Nat) (v:V),look (B9 ops T) t=some (some v)->(∀o∈ops,o.dst≠some t)/\look T t=some (some v)
 | [],T,t,v,h=>⟨by simp,h⟩
 | o::l,T,t,v,h=>by
  simp only[B9]at h;split at h
  ·rename_i d b;rw[aG]at h;split at h
   ·cases h
   ·rename_i c;obtain⟨h1,h2⟩:=qA l t v h;refine⟨λx a=>?_,h2⟩;rcases bv.1 a with rfl | a
    ·rw[b];intro e;cases e;exact c rfl
    ·exact h1 x a
  ·rename_i b;obtain⟨h1,h2⟩:=qA l t v h;refine⟨λx a=>?_,h2⟩;rcases bv.1 a with rfl | a
   ·rw[b];intro e;cases e
   ·exact h1 x a
def CE{α:Type}{E:List Ent}(hE:∀x∈E,cN P x){n:Nat}{ops:List Oper}{s:St}{k:Ex->St->Option α}{z:α}(h:y4 P E n ops s k=some z)(id:Nat):
  SemC P n (.region id ops.toArray true) s λex s'=>k ex s'=some z:=by
 intro ι0 w0 ι a w hI;unfold y4 at h;split at h
 case h_2=>cases h
 rename_i hok;simp only[aw,Bj]at hok;obtain⟨⟨hb1,hb2,_⟩,U⟩:=hok;have f:=lQ ops ops [] (by simp) (λj i g=>by simp[getN]at g);have hI1:Inv n ι0 w0 ι { s with nb:=s.nb+8*ops.length } a { w with drawn:=w.drawn+1 }:=by
  have h1:=hI.drawn (w.drawn+1);exact⟨h1.size,h1.defers,h1.tmps,⟨h1.mem.inj,λb r g=>by have:=h1.mem.low b r g;simp only;omega,h1.mem.dom,h1.mem.blk⟩,h1.ext,h1.new,h1.fr,h1.low,h1.fz,h1.gl⟩
 have J:∀i,Dn (Array.replicate ops.toArray.size false) i=false:=by
  intro i;unfold Dn;simp only[mV,MH];split<;>rfl
 have hno:∀(l:List Rec) (i:Nat) (D:Nat->Bool) (s:St),(∀j,D j=false)->appD i l D s=s:=by
  intro l
  induction l with
  | nil=>intros;rfl
  | cons r l ih=>intro i D s hD;simp only[appD,hD i,cb,aD];exact ih _ D s hD
 have C:∀(trf:List TE) (x y:Rec) (i j:Nat),lG (ie ops []) (trf.filter λx=>!(x.rd.isEmpty&&x.ws.isEmpty))=true->i<j->((⟨0+i,x.rd,keys x.wr⟩:TE)∈trf\/(x.rd=[]/\x.wr=[]))->((⟨0+j,y.rd,keys y.wr⟩:TE)∈trf\/(y.rd=[]/\y.wr=[]))->
   Must ops i j\/((∀b∈keys x.wr,b∉y.rd/\b∉keys y.wr)/\∀b∈x.rd,b∉keys y.wr):=by
  intro trf x y i j K B A G;rcases A with hxm | ⟨hx1,hx2⟩
  ·rcases G with hym | ⟨hy1,hy2⟩
   ·simp only[ci]at hxm hym;by_cases he1:(x.rd=[]/\x.wr=[])
    ·exact .inr (by simp[he1.1,he1.2,keys])
    ·by_cases X:(y.rd=[]/\y.wr=[])
     ·exact .inr (by simp[X.1,X.2,keys])
     ·have m1:(⟨i,x.rd,keys x.wr⟩:TE)∈trf.filter λx=>!(x.rd.isEmpty&&x.ws.isEmpty):=by
       refine iU.2 ⟨hxm,?_⟩;simp only[keys,ld,nX,AI];rcases AY (x.rd=[])with h | h
       ·exact .inr (by simpa usingλhw=>he1 ⟨h,hw⟩)
       ·exact .inl h
      have m2:(⟨j,y.rd,keys y.wr⟩:TE)∈trf.filter λx=>!(x.rd.isEmpty&&x.ws.isEmpty):=by
       refine iU.2 ⟨hym,?_⟩;simp only[keys,ld,nX,AI];rcases AY (y.rd=[])with h | h
       ·exact .inr (by simpa usingλhw=>X ⟨h,hw⟩)
       ·exact .inl h
      have:=xX (mK K _ m1 _ m2 B) B;exact this.imp (f j i) λh=>h
   ·exact .inr (by simp[hy1,hy2,keys])
  ·exact .inr (by simp[hx1,hx2,keys])
 rcases vW hE ops 0 _ [] (by simp) h with⟨recs,Q,trf,g1,S,R,_,W,g6⟩ | ⟨p,po,recs,Q,sp,trf,v,wr,rp,g1,g0,gr,gd,gw,rfl,S,R,_,g7,W,g6⟩
 ·split at S
  case h_2=>cases S
  rename_i K;have F:DrawFacts P n s.nb ops recs { s with nb:=s.nb+8*ops.length } (λ_=>True):=by
   refine⟨g1,rfl,λj o r O V=>?_,λj o e O he g=>?_,λi j x y B A G=>?_,λi j x y B A G=>?_⟩
   ·obtain⟨p1,p2⟩:=g6 j o r O V;simp only[ci]at p2;have e:=mP recs 0 j { s with nb:=s.nb+8*ops.length };simp only[ci]at e;exact⟨λt Z=>p1▸Z,λ_=>p2.eqv e⟩
   ·have:=gy ops 0 hb1 j o e O he g;omega
   ·have:=jO (masks:=ie ops []) ops [] hb2 i j x y (by simpa using B) (by simpa using A) G;simp only[cP,ci]at this;exact this.imp (f j i) λh=>h
   ·exact C trf x y i j K B (W i x A) (W j y G)
  refine wp_region_any U (yl (kk:=0) F (λ_ _ _=>trivial) (λI a' w' d=>⟨.normal,Q,I,rfl,d.eqv R.symm,S⟩) _ _ ι a _ (by simp) (λj hj=>by omega) (λj o e _ L=>by rw[J j]at L;cases L) (by rw[hno recs 0 _ _ J];exact hI1) (λi _ _ b g _=>?_) ?_)
  ·exact hI.fresh b (by omega)
  ·have:=uN (λi=>!Dn (Array.replicate ops.toArray.size false) i) (List.range ops.length);simpa using this
 ·split at S
  case h_2=>cases S
  rename_i hpk;simp only[aw,MP]at hpk;obtain⟨hw,K⟩:=hpk;simp only[ci]at S g7 hw;have B:p<ops.length:=by
   rcases aA p ops.length with h' | h'
   ·exact h'
   ·rw[ec h']at g0;cases g0
  have u:∀i r,recs[i]?=some r->i≠p->(i<p/\Must ops i p)\/r.wr=[]:=by
   intro i r V M;rcases W i r V M with A | A
   ·have:=(ct.1 hw) _ A;simp only[ci,fH,aw]at this;rcases this with h | h
    ·right;simpa[keys]using h
    ·exact .inl ⟨az h.1,f p i h.2⟩
   ·exact .inr A.2
  have g5':∀(j:Nat) (r:Rec),recs[j]?=some r->j≠p->(⟨0+j,r.rd,keys r.wr⟩:TE)∈trf\/(r.rd=[]/\r.wr=[]):=W;have F:DrawFacts P n s.nb ops recs { s with nb:=s.nb+8*ops.length } (λj=>j<p\/(p<j/\(getN (ie ops []) (0+j)).testBit (0+p)=false)):=by
   refine⟨g1,rfl,λj o r O V=>?_,λj o e O he g=>?_,λi j x y hij A G=>?_,λi j x y hij A G=>?_⟩
   ·obtain⟨p1,p2⟩:=g6 j o r O V;have e:=mP recs 0 j { s with nb:=s.nb+8*ops.length };simp only[ci]at e p2 ⊢;exact⟨λt Z=>p1▸Z,λhc=>(p2 hc).eqv e⟩
   ·have:=gy ops 0 hb1 j o e O he g;omega
   ·have:=jO (masks:=ie ops []) ops [] hb2 i j x y (by simpa using hij) (by simpa using A) G;simp only[cP,ci]at this;exact this.imp (f j i) λh=>h
   ·by_cases M:i=p
    ·
     subst M;rw[gr]at A;cases A;rcases u j y G (by omega)with⟨h,_⟩ | h
     ·omega
     ·exact .inr (by simp[gw,h,keys])
    ·by_cases N:j=p
     ·subst N;rw[gr]at G;cases G;rcases u i x A M with⟨_,h⟩ | h
      ·exact .inl h
      ·exact .inr (by simp[gw,h,keys])
     ·exact C trf x y i j K hij (W i x A M) (W j y G N)
  have c:Eqv ((recs.take p).foldl St.put { s with nb:=s.nb+8*ops.length }) (appD 0 recs (λm=>decide (m<p)) { s with nb:=s.nb+8*ops.length }):=by
   have e:=mP recs 0 p { s with nb:=s.nb+8*ops.length };simpa using e
  have Y:∀j,j<ops.length->j≠p->(j<p\/(p<j/\(getN (ie ops []) (0+j)).testBit (0+p)=false))\/Must ops p j:=by
   intro j _ hne;cases g:(getN (ie ops []) (0+j)).testBit (0+p)with
   | false=>exact .inl ((Nat.lt_or_gt_of_ne hne).imp (λh=>h) λh=>⟨h,rfl⟩)
   | true=>simp only[ci]at g;exact .inr (f j p g)
  refine wp_region_any U (Il F g0 gr (g7.eqv c) Y (λD hD hd hn I x a' w' hv d=>⟨.pan v,_,I,⟨x,rfl,hv⟩,?inv,S⟩) _ _ ι a _ (by simp) (λj o e _ L=>by rw[J j]at L;cases L) (J p) (by rw[hno _ 0 _ _ J];exact hI1) (λi _ _ b g _=>?fresh) ?len)
  case inv=>
   have hH:∀b,look Q.H b=look (appD 0 recs D { s with nb:=s.nb+8*ops.length }).H b:=by
    intro b;rw[R.H,c.H,se,se];refine lK _ 0 _ _ b _ λj r hj g=>?_;simp only[ci];by_cases N:j=p
    ·subst N;rw[gr]at hj;cases hj;rw[gw]at g;simp[keys]at g
    ·rcases u j r hj N with⟨h1,hm⟩ | hm
     ·rw[hm.in hD g0 hd (by omega)];simp[h1]
     ·rw[hm]at g;simp[keys]at g
   have hT:∀t v,look (B9 ops s.T) t=some (some v)->look (appD 0 recs D { s with nb:=s.nb+8*ops.length }).T t=some (some v):=by
    intro t v Z;obtain⟨h1,h2⟩:=qA ops t v Z;rw[uE,uz _ 0 D t _ λj r hj V=>?_]
    ·exact h2
    ·exfalso;obtain⟨o,O⟩:=sQ F hj;exact h1 o (dK O) ((F.loc j o r O hj).1 t V)
   refine⟨d.size,d.defers,λt v Z=>d.tmps t v (hT t v Z),⟨d.mem.inj,λb r g=>?_,d.mem.dom,λb blk hl hdd=>d.mem.blk b blk ?_ hdd⟩,?_,d.new,?_,λb r g=>?_,?_,?_⟩
   ·have:=d.mem.low b r g;have e:=R.nb.trans c.nb;rw[iQ]at e;show b<Q.nb;rw[e];exact this
   ·show look (wr++(appD 0 recs D { s with nb:=s.nb+8*ops.length }).H) b=_;rw[ly,<-hH b,<-ly];exact hl
   ·have e:=R.rb.trans c.rb;rw[sF]at e;have h1:=d.ext;show ∀b q,ι0 b=some q->I b=some q\/Q.rb<=b;rw[e];simp only[St.app,sF]at h1;exact h1
   ·have e:=R.ro.trans c.ro;rw[fR]at e;have h1:=d.fr;show Fr (roI ι0 Q.ro) w0.w w';rw[e];simp only[St.app,fR]at h1;exact h1
   ·have e:=R.lo.trans c.lo;rw[ua]at e;have h1:=d.low b r g;show b<Q.lo;rw[e];simp only[St.app,ua]at h1;exact h1
   ·have e:=R.ro.trans c.ro;rw[fR]at e;have h1:=d.fz;show ∀b q,I b=some (some q)->q.fz=true->b<Q.ro;rw[e];simp only[St.app,fR]at h1;exact h1
   ·have e:=R.ro.trans c.ro;rw[fR]at e;have h1:=d.gl;show GL (roI ι0 Q.ro) w0.w;rw[e];simp only[St.app,fR]at h1;exact h1
  case fresh=>exact hI.fresh b (by omega)
  case len=>
   have:=uN (λi=>!Dn (Array.replicate ops.toArray.size false) i) (List.range ops.length);simpa using this
end Go.Abs
