
import Derived.Test.YtadejcglcffgbabGreatDoorAbsM
set_option linter.unusedSimpArgs false
set_option linter.unusedVariables false
set_option linter.defProp false
namespace Go.Abs
variable {P:Program}
structure Rec where
 dst:Option Nat
 val:Option V
 wr:List (Nat×Blk)
 rd:List Nat
def St.put(s:St)(r:Rec):St:=s.app r.dst r.val r.wr s.nb
def keys(wr:List (Nat×Blk)):List Nat:=wr.map (·.1)
def mH{α:Type}(l m:List (Nat×α))(n:Nat):look (l++m) n=(look l n).or (look m n):=by
 induction l with
 | nil=>rfl
 | cons x l ih=>
  obtain⟨k,v⟩:=x;rw[kL,aO,aO];split
  ·rfl
  ·exact ih
def mQ{α:Type}{l:List (Nat×α)}{n:Nat}(h:n∉l.map (·.1)):look l n=none:=by
 induction l with
 | nil=>rfl
 | cons x l ih=>
  obtain⟨k,v⟩:=x;simp only[fb,bX,not_or]at h;rw[aO,ab (λe=>h.1 e.symm)];exact ih h.2
def nS{α:Type}{l:List (Nat×α)}{n:Nat}(h:n∈l.map (·.1)):∃v,look l n=some v:=by
 induction l with
 | nil=>simp at h
 | cons x l ih=>
  obtain⟨k,v⟩:=x;rw[aO];split
  ·exact⟨v,rfl⟩
  ·rename_i a;simp only[fb,bX]at h;exact ih (h.resolve_left λe=>a e.symm)
def H3(s:St)(r:Rec)(t:Nat):look (s.put r).T t=if r.dst=some t then some r.val else look s.T t:=by
 unfold St.put St.app;cases a:r.dst with
 | none=>simp
 | some d=>
  simp only[aO];by_cases h:d=t
  ·subst h;simp
  ·simp[h]
def H9(s:St)(r:Rec)(b:Nat):look (s.put r).H b=(look r.wr b).or (look s.H b):=mH _ _ _
def N4(s:St)(r:Rec):(s.put r).nb=s.nb:=rfl
structure Eqv(s s':St):Prop where
 T:∀t,look s.T t=look s'.T t
 H:∀b,look s.H b=look s'.H b
 nb:s.nb=s'.nb
 lo:s.lo=s'.lo
 ro:s.ro=s'.ro
 rb:s.rb=s'.rb
def Eqv.refl(s:St):Eqv s s:=⟨λ_=>rfl,λ_=>rfl,rfl,rfl,rfl,rfl⟩
def Eqv.symm{s s':St}(h:Eqv s s'):Eqv s' s:=⟨λt=>(h.T t).symm,λb=>(h.H b).symm,h.nb.symm,h.lo.symm,h.ro.symm,h.rb.symm⟩
def Eqv.trans{a b c:St}(h:Eqv a b)(k:Eqv b c):Eqv a c:=⟨λt=>(h.T t).trans (k.T t),λt=>(h.H t).trans (k.H t),h.nb.trans k.nb,h.lo.trans k.lo,h.ro.trans k.ro,h.rb.trans k.rb⟩
def Eqv.put{s s':St}(h:Eqv s s')(r:Rec):Eqv (s.put r) (s'.put r):=
 ⟨λt=>by rw[H3,H3,h.T],λb=>by rw[H9,H9,h.H],h.nb,h.lo,h.ro,h.rb⟩
def Eqv.puts:∀(l:List Rec) {s s':St},Eqv s s'->Eqv (l.foldl St.put s) (l.foldl St.put s')
 | [],_,_,h=>h
 | r::l,_,_,h=>Eqv.puts l (h.put r)
def Inv.eqv{n:Nat}{ι0 ι:Inj}{w0:Base}{s s':St}{a:Act}{w:World}(h:Inv n ι0 w0 ι s a w)(e:Eqv s s'):Inv n ι0 w0 ι s' a w:=
 ⟨h.size,h.defers,λt v E=>h.tmps t v (by rw[e.T];exact E),⟨h.mem.inj,λb r A=>by rw[<-e.nb];exact h.mem.low b r A,h.mem.dom,λb blk C F=>h.mem.blk b blk (by rw[e.H];exact C) F⟩,by rw[<-e.rb];exact h.ext,h.new,by rw[<-e.ro];exact h.fr,λb r A=>by rw[<-e.lo];exact h.low b r A,by rw[<-e.ro];exact h.fz,by rw[<-e.ro];exact h.gl⟩
def appD:Nat->List Rec->(Nat->Bool)->St->St
 | _,[],_,s=>s
 | i,r::l,D,s=>appD (i+1) l D (if D i=true then s.put r else s)
def s7:Nat->List Rec->(Nat->Bool)->Nat->Option (Option V)->Option (Option V)
 | _,[],_,_,x=>x
 | i,r::l,D,t,x=>s7 (i+1) l D t (if D i=true/\r.dst=some t then some r.val else x)
def tG:Nat->List Rec->(Nat->Bool)->Nat->Option Blk->Option Blk
 | _,[],_,_,x=>x
 | i,r::l,D,b,x=>tG (i+1) l D b (if D i=true then(look r.wr b).or x else x)
def uU:∀(l:List Rec) (i:Nat) (D:Nat->Bool) (s:St) (t:Nat),look (appD i l D s).T t=s7 i l D t (look s.T t)
 | [],_,_,_,_=>rfl
 | r::l,i,D,s,t=>by
  simp only[appD,s7,uU l];congr 1;cases D i
  ·simp
  ·simp only[ie,bc];rw[H3]
def rK:∀(l:List Rec) (i:Nat) (D:Nat->Bool) (s:St) (b:Nat),look (appD i l D s).H b=tG i l D b (look s.H b)
 | [],_,_,_,_=>rfl
 | r::l,i,D,s,b=>by
  simp only[appD,tG,rK l];congr 1;cases D i
  ·simp
  ·simp only[bc];rw[H9]
def jk:∀(l:List Rec) (i:Nat) (D:Nat->Bool) (s:St),(appD i l D s).nb=s.nb
 | [],_,_,_=>rfl
 | r::l,i,D,s=>by
  simp only[appD,jk l];split<;>rfl
def gz:∀(l:List Rec) (i:Nat) (D:Nat->Bool) (s:St),(appD i l D s).ro=s.ro
 | [],_,_,_=>rfl
 | r::l,i,D,s=>by
  simp only[appD,gz l];split<;>rfl
def sD:∀(l:List Rec) (i:Nat) (D:Nat->Bool) (s:St),(appD i l D s).lo=s.lo
 | [],_,_,_=>rfl
 | r::l,i,D,s=>by
  simp only[appD,sD l];split<;>rfl
def sP:∀(l:List Rec) (i:Nat) (D:Nat->Bool) (s:St),(appD i l D s).rb=s.rb
 | [],_,_,_=>rfl
 | r::l,i,D,s=>by
  simp only[appD,sP l];split<;>rfl
def oK:∀(l:List Rec) (i:Nat) (D a:Nat->Bool) (t:Nat) (x:Option (Option V)),(∀j r,l[j]?=some r->r.dst=some t->D (i+j)=a (i+j))->s7 i l D t x=s7 i l a t x
 | [],_,_,_,_,_,_=>rfl
 | r::l,i,D,a,t,x,h=>by
  simp only[s7];have c:=h 0 r (by simp);simp only[eJ]at c;rw[oK l (i+1) D a t _ λj e f d=>by have:=h (j+1) e (by simpa using f) d;rwa[show i+(j+1)=i+1+j by omega]at this];congr 1;by_cases b:r.dst=some t
  ·rw[c b]
  ·simp[b]
def ve(l:List Rec)(i:Nat)(D:Nat->Bool)(t:Nat)(x:Option (Option V))(h:∀j r,l[j]?=some r->r.dst=some t->D (i+j)=false):s7 i l D t x=x:=by
 induction l generalizing i x with
 | nil=>rfl
 | cons r l ih=>
  simp only[s7];have a:=h 0 r (by simp);simp only[eJ]at a;have:¬(D i=true/\r.dst=some t):=λ⟨b,c⟩=>by rw[a c]at b;cases b
  rw[ab this];exact ih (i+1) x λj e f d=>by have:=h (j+1) e (by simpa using f) d;rwa[show i+(j+1)=i+1+j by omega]at this
def AT:∀(l:List Rec) (i j:Nat) (D:Nat->Bool) (t:Nat) (x:Option (Option V)) (r:Rec),l[j]?=some r->D (i+j)=true->r.dst=some t->
  (∀k b,j<k->l[k]?=some b->b.dst=some t->D (i+k)=false)->s7 i l D t x=some r.val
 | [],_,_,_,_,_,_,h,_,_,_=>by simp at h
 | r0::l,i,0,D,t,x,r,h,e,d,a=>by
  simp only[iE,aq]at h;subst h;simp only[eJ]at e;simp only[s7];rw[ad ⟨e,d⟩];exact ve l (i+1) D t _ λk b f c=>by have:=a (k+1) b (by omega) (by simpa using f) c;rwa[show i+(k+1)=i+1+k by omega]at this
 | r0::l,i,j+1,D,t,x,r,h,e,d,a=>by
  simp only[s7]
  exact AT l (i+1) j D t _ r (by simpa using h) (by rwa[show i+1+j=i+(j+1)by omega]) d λk b f g c=>by
   have:=a (k+1) b (by omega) (by simpa using g) c;rwa[show i+(k+1)=i+1+k by omega]at this
def mE:∀(l:List Rec) (i:Nat) (D a:Nat->Bool) (b:Nat) (x:Option Blk),(∀j r,l[j]?=some r->b∈keys r.wr->D (i+j)=a (i+j))->tG i l D b x=tG i l a b x
 | [],_,_,_,_,_,_=>rfl
 | r::l,i,D,a,b,x,h=>by
  simp only[tG];have d:=h 0 r (by simp);simp only[eJ]at d;rw[mE l (i+1) D a b _ λj f g e=>by have:=h (j+1) f (by simpa using g) e;rwa[show i+(j+1)=i+1+j by omega]at this];congr 1;by_cases c:b∈keys r.wr
  ·rw[d c]
  ·simp[mQ c]
def DO(l:List Rec)(i:Nat)(D:Nat->Bool)(b:Nat)(x:Option Blk)(h:∀j r,l[j]?=some r->b∈keys r.wr->D (i+j)=false):tG i l D b x=x:=by
 induction l generalizing i x with
 | nil=>rfl
 | cons r l ih=>
  simp only[tG];have c:=h 0 r (by simp);simp only[eJ]at c;have:(if D i=true then(look r.wr b).or x else x)=x:=by
   by_cases a:b∈keys r.wr
   ·rw[c a];simp
   ·rw[mQ a];simp
  rw[this];exact ih (i+1) x λj e f d=>by have:=h (j+1) e (by simpa using f) d;rwa[show i+(j+1)=i+1+j by omega]at this
def CP:∀(l:List Rec) (i j:Nat) (D:Nat->Bool) (b:Nat) (x:Option Blk) (r:Rec),l[j]?=some r->D (i+j)=true->b∈keys r.wr->
  (∀k c,j<k->l[k]?=some c->b∈keys c.wr->D (i+k)=false)->tG i l D b x=look r.wr b
 | [],_,_,_,_,_,_,h,_,_,_=>by simp at h
 | r0::l,i,0,D,b,x,r,h,f,e,a=>by
  simp only[iE,aq]at h;subst h;simp only[eJ]at f;simp only[tG];obtain⟨v,n⟩:=nS e;rw[ad f,n];exact DO l (i+1) D b _ λk c g d=>by have:=a (k+1) c (by omega) (by simpa using g) d;rwa[show i+(k+1)=i+1+k by omega]at this
 | r0::l,i,j+1,D,b,x,r,h,f,e,a=>by
  simp only[tG]
  exact CP l (i+1) j D b _ r (by simpa using h) (by rwa[show i+1+j=i+(j+1)by omega]) e λk c g m d=>by
   have:=a (k+1) c (by omega) (by simpa using m) d;rwa[show i+(k+1)=i+1+k by omega]at this
def mX:∀(l:List Rec) (i j:Nat) (s:St),Eqv ((l.take j).foldl St.put s) (appD i l (λm=>decide (m<i+j)) s)
 | [],i,j,s=>by simp[appD];exact Eqv.refl s
 | r::l,i,0,s=>by
  have:∀(l:List Rec) (i a:Nat) (s:St),i<=a->appD a l (λm=>decide (m<i)) s=s:=by
   intro l
   induction l with
   | nil=>intros;rfl
   | cons r l ih=>intro i a s h;simp only[appD,show¬a<i by omega,ml,cj,aG];exact ih i (a+1) s (by omega)
  simp only[nE,AN,eJ];rw[this (r::l) i i s (aV _)];exact Eqv.refl s
 | r::l,i,j+1,s=>by
  simp only[qi,qM,appD,show i<i+(j+1)by omega,mu,bc];have:=mX l (i+1) j (s.put r);rwa[show(λm=>decide (m<i+1+j))=λm=>decide (m<i+(j+1))by funext m;simp only[tO];omega]at this
def vM:∀(l:List Rec) (i:Nat) (D:Nat->Bool) (s:St),(∀j,j<l.length->D (i+j)=true)->appD i l D s=l.foldl St.put s
 | [],_,_,_,_=>rfl
 | r::l,i,D,s,h=>by
  have a:=h 0 (by simp);simp only[eJ]at a;simp only[appD,a,bc,qM];exact vM l (i+1) D _ λj b=>by have:=h (j+1) (by simpa using b);rwa[show i+(j+1)=i+1+j by omega]at this
def qC(P:Program)(n nb0:Nat)(ops:List Oper)(i:Nat)(o:Oper)(r:Rec)(base:St):Prop:=
 ∀s':St,(∀t∈o.looksAt ops.toArray,look s'.T t=look base.T t)->(∀b∈r.rd,look s'.H b=look base.H b)->s'.nb=base.nb->s'.ro=base.ro->
  ∀(ι0:Inj) (w0:Base) (ι:Inj) (a:Act) (w:World),Inv n ι0 w0 ι s' a w->(∀b,nb0+8*i<=b->b<nb0+8*i+8->ι b=none)->∀(K:Act->World->Prop) (Q:Exit->Act->World->Prop),
   (∀c d w',(∀b,(b<nb0+8*i\/nb0+8*i+8<=b)->c b=ι b)->Inv n ι0 w0 c (s'.put r) d w'->K d w')->
   if Region.wanted o (yielded ops.toArray a.tmps)then o.wp P a w K Q else K (a.put o.dst undef) w
def uX(P:Program)(n nb0:Nat)(ops:List Oper)(i:Nat)(o:Oper)(v:V)(wr:List (Nat×Blk))(rd:List Nat)(base:St):Prop:=
 ∀s':St,(∀t∈o.looksAt ops.toArray,look s'.T t=look base.T t)->(∀b∈rd,look s'.H b=look base.H b)->s'.nb=base.nb->s'.ro=base.ro->
  ∀(ι0:Inj) (w0:Base) (ι:Inj) (a:Act) (w:World),Inv n ι0 w0 ι s' a w->(∀b,nb0+8*i<=b->b<nb0+8*i+8->ι b=none)->∀(K:Act->World->Prop) (Q:Exit->Act->World->Prop),
   (∀c x w',VR c v x->Inv n ι0 w0 c (s'.app none none wr s'.nb) a w'->Q (.panic [{ v:=x,recovered:=false }]) a w')->
   Region.wanted o (yielded ops.toArray a.tmps)=true/\o.wp P a w K Q
def uX.eqv{n nb0:Nat}{ops:List Oper}{i:Nat}{o:Oper}{v:V}{wr:List (Nat×Blk)}{rd:List Nat}{base A:St}(h:uX P n nb0 ops i o v wr rd base)(e:Eqv base A):uX P n nb0 ops i o v wr rd A:=
 λs' J G C F=>h s' (λt M=>by rw[J t M,e.T]) (λb E=>by rw[G b E,e.H]) (by rw[C,e.nb]) (by rw[F,e.ro])
def qC.eqv{n nb0:Nat}{ops:List Oper}{i:Nat}{o:Oper}{r:Rec}{base A:St}(h:qC P n nb0 ops i o r base)(e:Eqv base A):qC P n nb0 ops i o r A:=
 λs' J G C F=>h s' (λt M=>by rw[J t M,e.T]) (λb E=>by rw[G b E,e.H]) (by rw[C,e.nb]) (by rw[F,e.ro])
def vi{α:Type}{ops:List Oper}{o:Oper}{s:St}{k:Bool->St->Option α}{z:α}(h:sR ops o s k=some z):
  ∃c r,k c r=some z/\Eqv r s/\∀s':St,(∀t∈o.looksAt ops.toArray,look s'.T t=look s.T t)->∀(n:Nat) (ι0 ι:Inj) (w0:Base) (a:Act) (w:World),Inv n ι0 w0 ι s' a w->
   Region.wanted o (yielded ops.toArray a.tmps)=c:=by
 unfold sR at h;split at h
 ·rename_i l;exact⟨true,s,h,Eqv.refl s,λ_ _ _ _ _ _ _ _ _=>by simp[Region.wanted,l]⟩
 ·rename_i j c l;split at h
  case h_2=>cases h
  rename_i d i;have f:d∈o.looksAt ops.toArray:=by
   unfold Oper.looksAt;unfold gtmp at i;split at i
   ·rename_i u q;simp[l,q,i]
   ·cases i
  have again:∀x,look s.T d=some (some (.b x))->Eqv { s with T:=(d,some (V.b x))::s.T } s:=by
   intro x hx;refine⟨λt=>?_,λ_=>rfl,rfl,rfl,rfl,rfl⟩;show look ((d,some (V.b x))::s.T) t=look s.T t;rw[aO];split
   ·rename_i e;subst e;exact hx.symm
   ·rfl
  split at h
  ·rename_i x hx;cases x
   ·refine⟨!c,_,h,again _ hx,λs' hs n ι0 ι w0 a w m=>?_⟩;obtain⟨y,p,g⟩:=m.tmps d _ (by rw[hs d f];exact hx);simp only[VR]at g;subst g;have hy:=nO i a.tmps;rw[p]at hy;cases c<;>simp[Region.wanted,l,hy]
   ·refine⟨c,_,h,again _ hx,λs' hs n ι0 ι w0 a w m=>?_⟩;obtain⟨y,p,g⟩:=m.tmps d _ (by rw[hs d f];exact hx);simp only[VR]at g;subst g;have hy:=nO i a.tmps;rw[p]at hy;cases c<;>simp[Region.wanted,l,hy]
  ·rename_i hx;refine⟨false,s,h,Eqv.refl s,λs' hs n ι0 ι w0 a w m=>?_⟩;obtain⟨y,p,g⟩:=m.tmps d _ (by rw[hs d f];exact hx);simp only[VR]at g;obtain⟨v,rfl,_⟩:=g;have hy:=nO i a.tmps;rw[p]at hy;simp[Region.wanted,l,hy]
  ·cases h
def th{ops:Array Oper}{o:Oper}{s s':St}(h:∀t∈o.looksAt ops,look s'.T t=look s.T t):∀x∈o.op.operands.toList,opd s'.T x=opd s.T x:=by
 intro x hx;cases x with
 | tmp t=>
  have:=h t (by
   unfold Oper.looksAt;simp only[jW,List.mem_filterMap];exact .inl ⟨.tmp t,hx,rfl⟩)
  simp only[opd,this]
 | _=>rfl
def Ec{α:Type}{E:List Ent}(X:∀x∈E,ib P x){n nb0:Nat}{ops:List Oper}{masks:List Nat}{p:Nat}{k:List TE->Option α}{z:α}:∀(l:List Oper) (i:Nat) (s:St) (tr:List TE),
  nb0+8*(i+l.length)<=s.nb->runB P E n nb0 ops masks p i l s tr k=some z->
  ∃(recs:List Rec) (trf:List TE),recs.length=l.length/\k trf=some z/\(∀x∈tr,x∈trf)/\
   (∀j r,recs[j]?=some r->(⟨i+j,r.rd,keys r.wr⟩:TE)∈trf\/(r.rd=[]/\r.wr=[]))/\
   ∀(j:Nat) (o:Oper) (r:Rec),l[j]?=some o->recs[j]?=some r->r.dst=o.dst/\((getN masks (i+j)).testBit p=false->qC P n nb0 ops (i+j) o r ((recs.take j).foldl St.put s))
 | [],i,s,tr,A,h=>⟨[],tr,rfl,h,λ_ h=>h,λj r h=>by simp at h,λj o r h=>by simp at h⟩
 | o::l,i,s,tr,A,h=>by
  simp only[cU]at A;simp only[runB]at h;have more:∀(e:Rec) (d:List TE) (I:St),e.dst=o.dst->((getN masks i).testBit p=false->qC P n nb0 ops i o e s)->Eqv I (s.put e)->s.nb<=I.nb->(∀x∈tr,x∈d)->((⟨i,e.rd,keys e.wr⟩:TE)∈d\/(e.rd=[]/\e.wr=[]))->
    runB P E n nb0 ops masks p (i+1) l I d k=some z->∃(recs:List Rec) (trf:List TE),recs.length=(o::l).length/\k trf=some z/\(∀x∈tr,x∈trf)/\
   (∀j r,recs[j]?=some r->(⟨i+j,r.rd,keys r.wr⟩:TE)∈trf\/(r.rd=[]/\r.wr=[]))/\
   ∀(j:Nat) (F:Oper) (r:Rec),(o::l)[j]?=some F->recs[j]?=some r->r.dst=F.dst/\((getN masks (i+j)).testBit p=false->qC P n nb0 ops (i+j) F r ((recs.take j).foldl St.put s)):=by
   intro e d I N hl e2 Y L S h;obtain⟨recs,trf,g1,g2,V,g5,g6⟩:=Ec X l (i+1) I d (by omega) h;refine⟨e::recs,trf,by simp[g1],g2,λx hx=>V x (L x hx),λj r m=>?_,λj F r O m=>?_⟩
   ·cases j with
    | zero=>simp only[iE,aq]at m;subst m;exact S.imp (V _) id
    | succ j=>have:=g5 j r (by simpa using m);rwa[show i+1+j=i+(j+1)by omega]at this
   ·cases j with
    | zero=>
     simp only[iE,aq]at O m;subst O m;exact⟨N,hl⟩
    | succ j=>
     obtain⟨p1,p2⟩:=g6 j F r (by simpa using O) (by simpa using m);rw[show i+1+j=i+(j+1)by omega]at p2;exact⟨p1,λu=>(p2 u).eqv (by simpa using Eqv.puts (recs.take j) e2)⟩
  split at h
  ·rename_i G;exact more ⟨o.dst,none,[],[]⟩ tr (s.app o.dst none [] s.nb) rfl (λu=>by rw[G]at u;cases u) (Eqv.refl _) (aV _) (λ_ h=>h) (.inr ⟨rfl,rfl⟩) h
  obtain⟨y,B,h,q,hw⟩:=vi h;have c:B.nb=s.nb:=q.nb;cases y
  ·simp only at h;split at h
   case h_2=>cases h
   rename_i N;refine more ⟨o.dst,some (.tp []),[],[]⟩ tr (B.app o.dst (some (.tp [])) [] B.nb) rfl (λ_ s' J Z W q4 ι0 w0 ι a w C D K Q U=>?_) (q.put ⟨o.dst,some (.tp []),[],[]⟩) (tc c.symm) (λ_ h=>h) (.inr ⟨rfl,rfl⟩) h;rw[hw s' J n ι0 ι w0 a w C];simp only[cj,aG];exact U ι _ _ (λ_ _=>rfl) (C.skip N)
  ·simp only at h;rcases xn X (by omega) h with⟨val,wr,rd,g,R,f⟩ | ⟨v,wr,rd,R,f⟩
   ·refine more ⟨o.dst,val,wr,rd⟩ (⟨i,rd,keys wr⟩::tr) (B.app o.dst val wr B.nb) rfl (λ_ s' J Z W q4 ι0 w0 ι a w C D K Q U=>?_) (q.put ⟨o.dst,val,wr,rd⟩) (tc c.symm) (λx hx=>gN _ hx) (.inl (by simp[keys])) R;rw[hw s' J n ι0 ι w0 a w C];simp only[bc];refine f s' (th λt ht=>by rw[J t ht,q.T]) (λb u=>by rw[Z b u,q.H]) (by rw[W,c]) (by rw[q4,q.ro]) ι0 w0 ι a w C (by simpa using D) K Q λM a' w' z1 z2=>U M a' w' (by simpa using z1) z2
   ·cases R
def wH {α:Type} {E:List Ent} (hE:∀x∈E,ib P x) {n nb0:Nat} {ops:List Oper} {masks:List Nat} {k:St->List TE->Option α} {kp:Nat->V->St->List TE->Option α} {z:α}:∀(l:List Oper) (i:Nat) (s:St) (tr:List TE),
  nb0+8*(i+l.length)<=s.nb->runD P E n nb0 ops masks kp i l s tr k=some z->
  (∃(recs:List Rec) (d:St) (trf:List TE),recs.length=l.length/\k d trf=some z/\Eqv d (recs.foldl St.put s)/\(∀x∈tr,x∈trf)/\
   (∀j r,recs[j]?=some r->(⟨i+j,r.rd,keys r.wr⟩:TE)∈trf\/(r.rd=[]/\r.wr=[]))/\
   ∀(j:Nat) (o:Oper) (r:Rec),l[j]?=some o->recs[j]?=some r->r.dst=o.dst/\qC P n nb0 ops (i+j) o r ((recs.take j).foldl St.put s))\/
  (∃(p:Nat) (op:Oper) (recs:List Rec) (d:St) (L:St) (trf:List TE) (v:V) (wr:List (Nat×Blk)) (m:Rec),recs.length=l.length/\l[p]?=some op/\recs[p]?=some m/\m.dst=op.dst/\m.wr=[]/\L=d.app none none wr d.nb/\kp (i+p) v L trf=some z/\Eqv d ((recs.take p).foldl St.put s)/\(∀x∈tr,x∈trf)/\
   uX P n nb0 ops (i+p) op v wr m.rd ((recs.take p).foldl St.put s)/\
   (∀j r,recs[j]?=some r->j≠p->(⟨i+j,r.rd,keys r.wr⟩:TE)∈trf\/(r.rd=[]/\r.wr=[]))/\
   ∀(j:Nat) (o:Oper) (r:Rec),l[j]?=some o->recs[j]?=some r->r.dst=o.dst/\((j<p\/(p<j/\(getN masks (i+j)).testBit (i+p)=false))->qC P n nb0 ops (i+j) o r ((recs.take j).foldl St.put s)))
 | [],i,s,tr,S,h=>.inl ⟨[],s,tr,rfl,h,Eqv.refl s,λ_ h=>h,λj r h=>by simp at h,λj o r h=>by simp at h⟩
 | o::l,i,s,tr,S,h=>by
  simp only [cU] at S;simp only [runD] at h;obtain ⟨O,D,h,q,hw⟩:=vi h;have e:D.nb=s.nb:=q.nb;have more:∀(B:Rec) (A:List TE) (s2:St),B.dst=o.dst->qC P n nb0 ops i o B s->Eqv s2 (s.put B)->s.nb<=s2.nb->(∀x∈tr,x∈A)->((⟨i,B.rd,keys B.wr⟩:TE)∈A\/(B.rd=[]/\B.wr=[]))->
    runD P E n nb0 ops masks kp (i+1) l s2 A k=some z->
    (∃(recs:List Rec) (d:St) (trf:List TE),recs.length=(o::l).length/\k d trf=some z/\Eqv d (recs.foldl St.put s)/\(∀x∈tr,x∈trf)/\
   (∀j r,recs[j]?=some r->(⟨i+j,r.rd,keys r.wr⟩:TE)∈trf\/(r.rd=[]/\r.wr=[]))/\
   ∀(j:Nat) (f:Oper) (r:Rec),(o::l)[j]?=some f->recs[j]?=some r->r.dst=f.dst/\qC P n nb0 ops (i+j) f r ((recs.take j).foldl St.put s))\/
    (∃(p:Nat) (op:Oper) (recs:List Rec) (d:St) (L:St) (trf:List TE) (v:V) (wr:List (Nat×Blk)) (m:Rec),recs.length=(o::l).length/\(o::l)[p]?=some op/\recs[p]?=some m/\m.dst=op.dst/\m.wr=[]/\L=d.app none none wr d.nb/\kp (i+p) v L trf=some z/\Eqv d ((recs.take p).foldl St.put s)/\(∀x∈tr,x∈trf)/\
   uX P n nb0 ops (i+p) op v wr m.rd ((recs.take p).foldl St.put s)/\
   (∀j r,recs[j]?=some r->j≠p->(⟨i+j,r.rd,keys r.wr⟩:TE)∈trf\/(r.rd=[]/\r.wr=[]))/\
   ∀(j:Nat) (f:Oper) (r:Rec),(o::l)[j]?=some f->recs[j]?=some r->r.dst=f.dst/\((j<p\/(p<j/\(getN masks (i+j)).testBit (i+p)=false))->qC P n nb0 ops (i+j) f r ((recs.take j).foldl St.put s))):=by
   intro B A s2 hd hl J hnb2 U hte h;rcases wH hE l (i+1) s2 A (by omega) h with ⟨recs,d,trf,Y,N,g3,M,R,Z⟩ | ⟨p,op,recs,d,L,trf,v,wr,m,Y,g0,gr,gd,gw,gs,N,g3,M,g7,R,Z⟩
   ·refine .inl ⟨B::recs,d,trf,by simp [Y],N,g3.trans (Eqv.puts recs J),λx hx=>M x (U x hx),λj r c=>?_,λj f r u c=>?_⟩
    ·cases j with
     | zero=>simp only [iE,aq] at c;subst c;exact hte.imp (M _) id
     | succ j=>have:=R j r (by simpa using c);rwa [show i+1+j=i+(j+1) by omega] at this
    ·cases j with
     | zero=>
      simp only [iE,aq] at u c;subst u c;exact ⟨hd,hl⟩
     | succ j=>
      obtain ⟨W,G⟩:=Z j f r (by simpa using u) (by simpa using c);rw [show i+1+j=i+(j+1) by omega] at G;exact ⟨W,G.eqv (by simpa using Eqv.puts (recs.take j) J)⟩
   ·rw [show i+1+p=i+(p+1) by omega] at N g7;refine .inr ⟨p+1,op,B::recs,d,L,trf,v,wr,m,by simp [Y],by simpa using g0,by simpa using gr,gd,gw,gs,N,g3.trans (by simpa using Eqv.puts (recs.take p) J),λx hx=>M x (U x hx),g7.eqv (by simpa using Eqv.puts (recs.take p) J),λj r c hjp=>?_,λj f r u c=>?_⟩
    ·cases j with
     | zero=>simp only [iE,aq] at c;subst c;exact hte.imp (M _) id
     | succ j=>have:=R j r (by simpa using c) (by omega);rwa [show i+1+j=i+(j+1) by omega] at this
    ·cases j with
     | zero=>
      simp only [iE,aq] at u c;subst u c;exact ⟨hd,λ_=>hl⟩
     | succ j=>
      obtain ⟨W,G⟩:=Z j f r (by simpa using u) (by simpa using c);rw [show i+1+j=i+(j+1) by omega,show i+1+p=i+(p+1) by omega] at G;exact ⟨W,λhc=>(G (hc.imp (λh=>by omega) λh=>⟨by omega,h.2⟩)).eqv (by simpa using Eqv.puts (recs.take j) J)⟩
  cases O
  ·simp only at h;split at h
   case h_2=>cases h
   rename_i hd;refine more ⟨o.dst,some (.tp []),[],[]⟩ tr (D.app o.dst (some (.tp [])) [] D.nb) rfl (λs' I q2 X q4 ι0 w0 ι a w F C K Q hK=>?_) (q.put ⟨o.dst,some (.tp []),[],[]⟩) (tc e.symm) (λ_ h=>h) (.inr ⟨rfl,rfl⟩) h;rw [hw s' I n ι0 ι w0 a w F];simp only [cj,aG];exact hK ι _ _ (λ_ _=>rfl) (F.skip hd)
  ·simp only at h;rcases xn hE (by omega) h with ⟨val,wr,rd,g,hk,y⟩ | ⟨v,wr,rd,hk,y⟩
   ·refine more ⟨o.dst,val,wr,rd⟩ (⟨i,rd,keys wr⟩::tr) (D.app o.dst val wr D.nb) rfl (λs' I q2 X q4 ι0 w0 ι a w F C K Q hK=>?_) (q.put ⟨o.dst,val,wr,rd⟩) (tc e.symm) (λx hx=>gN _ hx) (.inl (by simp [keys])) hk;rw [hw s' I n ι0 ι w0 a w F];simp only [bc];refine y s' (th λt ht=>by rw [I t ht,q.T]) (λb hb=>by rw [q2 b hb,q.H]) (by rw [X,e]) (by rw [q4,q.ro]) ι0 w0 ι a w F (by simpa using C) K Q λι' a' w' z1 z2=>hK ι' a' w' (by simpa using z1) z2
   ·obtain ⟨recs,trf,Y,N,M,R,Z⟩:=Ec hE l (i+1) _ tr (by simp only [St.app];omega) hk;have J:Eqv (D.app o.dst none [] D.nb) (s.put ⟨o.dst,none,[],rd⟩):=q.put ⟨o.dst,none,[],rd⟩;refine .inr ⟨0,o,⟨o.dst,none,[],rd⟩::recs,D,_,trf,v,wr,⟨o.dst,none,[],rd⟩,by simp [Y],rfl,rfl,rfl,rfl,rfl,N,q,M,λs' I q2 X q4 ι0 w0 ι a w F C K Q hK=>?_,λj r c hjp=>?_,λj f r u c=>?_⟩
    ·simp only [nE,AN] at I q2 X q4;exact ⟨hw s' I n ι0 ι w0 a w F,y s' (th λt ht=>by rw [I t ht,q.T]) (λb hb=>by rw [q2 b hb,q.H]) (by rw [X,e]) (by rw [q4,q.ro]) ι0 w0 ι a w F (by simpa using C) K Q hK⟩
    ·cases j with
     | zero=>exact absurd rfl hjp
     | succ j=>have:=R j r (by simpa using c);rwa [show i+1+j=i+(j+1) by omega] at this
    ·cases j with
     | zero=>
      simp only [iE,aq] at u c;subst u c;exact ⟨rfl,λh=>by omega⟩
     | succ j=>
      obtain ⟨W,G⟩:=Z j f r (by simpa using u) (by simpa using c);rw [show i+1+j=i+(j+1) by omega] at G;refine ⟨W,λhc=>(G ?_).eqv (by simpa using Eqv.puts (recs.take j) J)⟩;rcases hc with hc | hc
      ·omega
      ·exact hc.2
def Down(ops:List Oper)(D:Nat->Bool):Prop:=∀j o e,ops[j]?=some o->D j=true->e∈o.after.toList->Region.binds .any e=true->D e.on=true
def Must(ops:List Oper)(i j:Nat):Prop:=∀D,Down ops D->D j=true->D i=true
def Dn(a:Array Bool):Nat->Bool:=λi=>a.getD i false
structure DrawFacts(P:Program)(n nb0:Nat)(ops:List Oper)(recs:List Rec)(s0:St)(live:Nat->Prop):Prop where
 len:recs.length=ops.length
 nb:s0.nb=nb0+8*ops.length
 loc:∀(j:Nat) (o:Oper) (r:Rec),ops[j]?=some o->recs[j]?=some r->(∀t,r.dst=some t->o.dst=some t)/\(live j->qC P n nb0 ops j o r (appD 0 recs (λm=>decide (m<j)) s0))
 down:∀(j:Nat) (o:Oper) (e:Edge),ops[j]?=some o->e∈o.after.toList->Region.binds .any e=true->e.on<j
 apart:∀(i j:Nat) (x y:Oper),i<j->ops[i]?=some x->ops[j]?=some y->Must ops i j\/x.apart ops.toArray y=true
 blk:∀(i j:Nat) (x y:Rec),i<j->recs[i]?=some x->recs[j]?=some y->Must ops i j\/((∀b∈keys x.wr,b∉y.rd/\b∉keys y.wr)/\∀b∈x.rd,b∉keys y.wr)
def pi{ops:List Oper}{a:Array Bool}{i:Nat}(hs:a.size=ops.length)(h:i∈Region.ready .any ops.toArray a):
  ∃o,ops[i]?=some o/\i<ops.length/\Dn a i=false/\∀e∈o.after.toList,Region.binds .any e=true->Dn a e.on=true:=by
 unfold Region.ready at h;simp only[jm,ij,aC,wQ]at h;obtain⟨d,c,b⟩:=h;have f:ops[i]?=some ops[i]:=by simp[d]
 refine⟨ops[i],f,d,?_,λe j g=>?_⟩
 ·unfold Dn;have:i<a.size:=by omega
  simp only[nD,Me this,wO]at c ⊢;simpa using c
 ·simp only[List.getElem?_toArray,f,ek,wO]at b;have:=(Array.all_eq_true'.1 b) e (by simpa using j);simp only[g,dD,sU]at this;exact this
def xa{ops:List Oper}{a:Array Bool}{i:Nat}{o:Oper}(hs:a.size=ops.length)(d:ops[i]?=some o)(c:Dn a i=false)
  (h:∀e∈o.after.toList,Region.binds .any e=true->Dn a e.on=true):i∈Region.ready .any ops.toArray a:=by
 have hi:i<ops.length:=by
  rcases aI i ops.length with b | b
  ·exact b
  ·rw[dX b]at d;cases d
 unfold Region.ready;simp only[jm,ij,aC,wQ];refine⟨hi,?_,?_⟩
 ·have:i<a.size:=by omega
  unfold Dn at c;simp only[nD,Me this,wO]at c ⊢;simp[c]
 ·simp only[List.getElem?_toArray,d,ek,wO];refine Array.all_eq_true'.2 λe g=>?_;cases f:Region.binds .any e with
  | false=>rfl
  | true=>
   have:=h e (by simpa using g) f;unfold Dn at this;simpa using this
def uI{a:Array Bool}{i:Nat}(h:i<a.size)(j:Nat):Dn (a.setIfInBounds i true) j=if j=i then true else Dn a j:=by
 unfold Dn;simp only[nD];rw[KB];by_cases b:i=j
 ·subst b;simp[h]
 ·simp[b,show¬j=i fromλe=>b e.symm]
def Down.add{ops:List Oper}{D:Nat->Bool}(h:Down ops D){i:Nat}{o:Oper}(M:ops[i]?=some o)(J:∀e∈o.after.toList,Region.binds .any e=true->D e.on=true):
  Down ops λj=>if j=i then true else D j:=by
 intro j O e C G F E;show(if e.on=i then true else D e.on)=true;by_cases A:j=i
 ·subst A;rw[M]at C;cases C;have:=J e F E;split
  ·rfl
  ·exact this
 ·simp only[A,aG]at G;have:=h j O e C G F E;split
  ·rfl
  ·exact this
def Must.in{ops:List Oper}{D:Nat->Bool}(h:Down ops D){i k:Nat}{o:Oper}(E:ops[i]?=some o)(C:∀e∈o.after.toList,Region.binds .any e=true->D e.on=true)
  (F:Must ops k i) (A:k≠i):D k=true:=by
 have:=F _ (h.add E C) (by simp);simpa[A]using this
section
variable {n nb0:Nat} {ops:List Oper} {recs:List Rec} {s0:St} {live:Nat->Prop} (F:DrawFacts P n nb0 ops recs s0 live)
include F
def sB{i:Nat}{o:Oper}(h:ops[i]?=some o):∃r,recs[i]?=some r:=by
 have hi:i<ops.length:=by
  rcases aI i ops.length with h' | h'
  ·exact h'
  ·rw[dX h']at h;cases h
 exact⟨recs[i]'(by rw[F.len];exact hi),by simp[F.len,hi]⟩
def sG{i:Nat}{r:Rec}(h:recs[i]?=some r):∃o,ops[i]?=some o:=by
 have hi:i<recs.length:=by
  rcases aI i recs.length with h' | h'
  ·exact h'
  ·rw[dX h']at h;cases h
 exact⟨ops[i]'(by rw[<-F.len];exact hi),by simp[F.len▸hi]⟩
def wU{D:Nat->Bool}(q:Down ops D){i:Nat}{o:Oper}(p:ops[i]?=some o)(s:D i=false)(w:∀e∈o.after.toList,Region.binds .any e=true->D e.on=true)
  {t:Nat} (v:t∈o.looksAt ops.toArray):look (appD 0 recs D s0).T t=look (appD 0 recs (λm=>decide (m<i)) s0).T t:=by
 rw[uU,uU];refine oK recs 0 _ _ t _ λj r u x=>?_;simp only[bV];obtain⟨f,c⟩:=sG F u;have a:=((F.loc j f r c u).1 t x).symm;rcases zZ j i with d | g | l
 ·have n:D j=true:=by
   rcases F.apart j i f o d c p with h | b
   ·exact h.in q p w (by omega)
   ·exact absurd v ((zE b).1 t a.symm)
  rw[n];simp[d]
 ·subst g;simp[s]
 ·have n:D j=false:=by
   rcases F.apart i j o f l p c with h | b
   ·cases k:D j with
    | false=>rfl
    | true=>have:=h D q k;rw[s]at this;cases this
   ·exact absurd v ((zE b).2.2 t a.symm)
  rw[n];simp;omega
def wc{D:Nat->Bool}(q:Down ops D){i:Nat}{o:Oper}{r:Rec}(w:ops[i]?=some o)(p:recs[i]?=some r)(s:D i=false)
  (v:∀e∈o.after.toList,Region.binds .any e=true->D e.on=true) {b:Nat} (l:b∈r.rd):look (appD 0 recs D s0).H b=look (appD 0 recs (λm=>decide (m<i)) s0).H b:=by
 rw[rK,rK];refine mE recs 0 _ _ b _ λj t u n=>?_;simp only[bV];rcases zZ j i with c | d | h
 ·have k:D j=true:=by
   rcases F.blk j i t r c u p with f | a
   ·exact f.in q w v (by omega)
   ·exact absurd l (a.1 b n).1
  rw[k];simp[c]
 ·subst d;simp[s]
 ·have k:D j=false:=by
   rcases F.blk i j r t h p u with f | a
   ·cases g:D j with
    | false=>rfl
    | true=>have:=f D q g;rw[s]at this;cases this
   ·exact absurd n (a.2 b l)
  rw[k];simp;omega
def vS{D:Nat->Bool}(B:Down ops D){i:Nat}{o:Oper}{r:Rec}(z:ops[i]?=some o)(f:recs[i]?=some r)(C:D i=false):
  Eqv ((appD 0 recs D s0).put r) (appD 0 recs (λj=>if j=i then true else D j) s0):=by
 have l:=(F.loc i o r z f).1;refine⟨λt=>?_,λb=>?_,by rw[N4,jk,jk],by show(appD 0 recs D s0).lo=_;rw[sD,sD],by show(appD 0 recs D s0).ro=_;rw[gz,gz],by show(appD 0 recs D s0).rb=_;rw[sP,sP]⟩
 ·rw[H3,uU,uU];by_cases h:r.dst=some t
  ·rw[ad h];symm;refine AT recs 0 i _ t _ r f (by simp) h λk p u c q=>?_;simp only[bV,show¬k=i by omega,aG];obtain⟨ok,g⟩:=sG F c;have y:=(F.loc k ok p g c).1;rcases F.apart i k o ok u z g with x | d
   ·cases e:D k with
    | false=>rfl
    | true=>have:=x D B e;rw[C]at this;cases this
   ·exact absurd (y t q) ((zE d).2.1 t (l t h))
  ·rw[ab h];refine oK recs 0 _ _ t _ λj p m s=>?_;simp only[bV];by_cases a:j=i
   ·subst a;rw[f]at m;cases m;exact absurd s h
   ·simp[a]
 ·rw[H9,rK,rK];by_cases n:b∈keys r.wr
  ·obtain⟨v,A⟩:=nS n;rw[A,Option.some_or];symm;rw[<-A];refine CP recs 0 i _ b _ r f (by simp) n λk p u c w=>?_;simp only[bV,show¬k=i by omega,aG];rcases F.blk i k r p u f c with x | d
   ·cases e:D k with
    | false=>rfl
    | true=>have:=x D B e;rw[C]at this;cases this
   ·exact absurd w (d.1 b n).2
  ·rw[mQ n,zS];refine mE recs 0 _ _ b _ λj p m w=>?_;simp only[bV];by_cases a:j=i
   ·subst a;rw[f]at m;cases m;exact absurd w n
   ·simp[a]
def xX {kk:Nat} (z:∀j,kk<=j->j<ops.length->live j) {ι0:Inj} {w0:Base} {Q:Exit->Act->World->Prop} (S:∀ι a w,Inv n ι0 w0 ι (recs.foldl St.put s0) a w->Q .normal a w):
  ∀(fuel:Nat) (c:Array Bool) (ι:Inj) (a:Act) (w:World),c.size=ops.length->(∀j,j<kk->Dn c j=true)->Down ops (Dn c)->Inv n ι0 w0 ι (appD 0 recs (Dn c) s0) a w->
   (∀i,i<ops.length->Dn c i=false->∀b,nb0+8*i<=b->b<nb0+8*i+8->ι b=none)->((List.range ops.length).filter λi=>!Dn c i).length<=fuel->
   wpAny P .any ops.toArray Q fuel c a w:=by
 have fin:∀(c:Array Bool) (ι:Inj) (a:Act) (w:World),c.size=ops.length->Inv n ι0 w0 ι (appD 0 recs (Dn c) s0) a w->Region.ready .any ops.toArray c=[]->Q .normal a w:=by
  intro c ι a w hs q m;have y:∀j,j<ops.length->Dn c j=true:=by
   intro j
   induction j using Nat.strongRecOn with
   | _ j ih=>
    intro v;cases J:Dn c j with
    | true=>rfl
    | false=>
     have f:ops[j]?=some ops[j]:=by simp [v]
     have M:=xa hs f J λe N E=>ih e.on (F.down j _ e f N E) (by have:=F.down j _ e f N E;omega);rw [m] at M;cases M
  rw [vM recs 0 (Dn c) s0 λj v=>by simpa using y j (by rw [<-F.len];exact v)] at q;exact S ι a w q
 intro fuel
 induction fuel with
 | zero=>
  intro c ι a w hs u B q s hc;have m:Region.ready .any ops.toArray c=[]:=by
   rw [List.eq_nil_iff_forall_not_mem];intro i hi;obtain ⟨o,f,g,p,_⟩:=pi hs hi;have:i∈(List.range ops.length).filter λi=>!Dn c i:=by simp [g,p]
   have:=Aj this;omega
  exact ⟨m,fin c ι a w hs q m⟩
 | succ fuel ih=>
  intro c ι a w hs u B q s hc;refine ⟨fin c ι a w hs q,λi hi=>?_⟩;obtain ⟨o,f,g,p,H⟩:=pi hs hi;obtain ⟨r,m⟩:=sB F f;have C:=(F.loc i o r f m).2 (z i (by rcases aI i kk with h | h;(· have:=u i h;rw [p] at this;cases this);exact h) g);have d:Dn (c.setIfInBounds i true)=λj=>if j=i then true else Dn c j:=by
   funext j;exact uI (by omega) j
  have D:=C (appD 0 recs (Dn c) s0) (λt R=>wU F B f p H R) (λb E=>wc F B f m p H E) (by rw [jk,jk]) (by rw [gz,gz]) ι0 w0 ι a w q (s i g p)
   (wpAny P .any ops.toArray Q fuel (c.setIfInBounds i true)) Q λG O w' U T=>by
    refine ih _ G O w' (by simpa using hs) (λj v=>by rw [d];simp only;split;(· rfl);exact u j v) (by rw [d];exact B.add f H) (by rw [d];exact T.eqv (vS F B f m p)) (λj v k b K I=>?_) ?_
    ·rw [d] at k;by_cases l:j=i
     ·simp [l] at k
     ·simp only [l,aG] at k;rw [U b (by omega)];exact s j v k b K I
    ·have:((List.range ops.length).filter λj=>!Dn (c.setIfInBounds i true) j).length<((List.range ops.length).filter λj=>!Dn c j).length:=by
      rw [d];have A:((List.range ops.length).filter λj=>!(if j=i then true else Dn c j))=((List.range ops.length).filter λj=>!Dn c j).filter λj=>decide (j≠i):=by
       rw [CQ];congr 1;funext j;by_cases l:j=i<;>simp [l]
      rw [A];refine BZ.2 ⟨i,by simp [g,p],by simp⟩
     omega
  unfold wpOp;have L:ops.toArray[i]?=some o:=by simpa using f
  rw [L];simp only;split
  ·rename_i x;rw [ad x] at D;exact .inl D
  ·rename_i x;rw [ab x] at D;exact D
def HT {lim kk:Nat} (D:lim<ops.length) (g:∀j,kk<=j->j<lim->live j/\Must ops j lim) (z:∀j,lim<j->j<ops.length->Must ops lim j) {ι0:Inj} {w0:Base} {Q:Exit->Act->World->Prop}
  (W:∀(fuel:Nat) (c:Array Bool) (ι:Inj) (a:Act) (w:World),c.size=ops.length->(∀j,j<lim->Dn c j=true)->Dn c lim=false->Down ops (Dn c)->Down ops (Dn (c.setIfInBounds lim true))->
   Inv n ι0 w0 ι (appD 0 recs (Dn c) s0) a w->((List.range ops.length).filter λi=>!Dn c i).length<=fuel+1->wpOp P ops.toArray Q lim (wpAny P .any ops.toArray Q fuel (c.setIfInBounds lim true)) a w):
  ∀(fuel:Nat) (c:Array Bool) (ι:Inj) (a:Act) (w:World),c.size=ops.length->(∀j,j<kk->Dn c j=true)->Down ops (Dn c)->Dn c lim=false->Inv n ι0 w0 ι (appD 0 recs (Dn c) s0) a w->
   (∀i,i<ops.length->Dn c i=false->∀b,nb0+8*i<=b->b<nb0+8*i+8->ι b=none)->((List.range ops.length).filter λi=>!Dn c i).length<=fuel->
   wpAny P .any ops.toArray Q fuel c a w:=by
 have fin:∀(c:Array Bool),c.size=ops.length->Dn c lim=false->Region.ready .any ops.toArray c=[]->False:=by
  intro c hs hp s;have B:∀j,j<ops.length->Dn c j=true:=by
   intro j
   induction j using Nat.strongRecOn with
   | _ j ih=>
    intro x;cases M:Dn c j with
    | true=>rfl
    | false=>
     have f:ops[j]?=some ops[j]:=by simp [x]
     have S:=xa hs f M λe T I=>ih e.on (F.down j _ e f T I) (by have:=F.down j _ e f T I;omega);rw [s] at S;cases S
  rw [B lim D] at hp;cases hp
 intro fuel
 induction fuel with
 | zero=>
  intro c ι a w hs k l hp K u hc;have:lim∈(List.range ops.length).filter λi=>!Dn c i:=by simp [D,hp]
  have:=Aj this;omega
 | succ fuel ih=>
  intro c ι a w hs k l hp K u hc;refine ⟨λs=>(fin c hs hp s).elim,λi hi=>?_⟩;obtain ⟨o,f,q,v,A⟩:=pi hs hi;obtain ⟨r,s⟩:=sB F f;have d:Dn (c.setIfInBounds i true)=λj=>if j=i then true else Dn c j:=by
   funext j;exact uI (by omega) j
  by_cases G:i=lim
  ·subst G;refine W fuel c ι a w hs (λj x=>?_) v l (by rw [d];exact l.add f A) K hc;rcases aI j kk with h | h
   ·exact k j h
   ·exact (g j h x).2.in l f A (by omega)
  have O:ops.toArray[i]?=some o:=by simpa using f
  unfold wpOp;rw [O];simp only;have hlt':i<lim:=by
   rcases aI i lim with h | h
   ·exact h
   ·have:=(z i (by omega) q).in l f A (λe=>G e.symm);rw [hp] at this;cases this
  have R:kk<=i:=by
   rcases aI i kk with h | h
   ·have:=k i h;rw [v] at this;cases this
   ·exact h
  have E:=(F.loc i o r f s).2 (g i R hlt').1
  have H:=E (appD 0 recs (Dn c) s0) (λt V=>wU F l f v A V) (λb I=>wc F l f s v A I) (by rw [jk,jk]) (by rw [gz,gz]) ι0 w0 ι a w K (u i q v)
   (wpAny P .any ops.toArray Q fuel (c.setIfInBounds i true)) Q λJ U w' Y X=>by
    refine ih _ J U w' (by simpa using hs) (λj x=>by rw [d];simp only;split;(· rfl);exact k j x) (by rw [d];exact l.add f A) (by rw [d];simp only [show ¬lim=i by omega,aG];exact hp) (by rw [d];exact X.eqv (vS F l f s v)) (λj x m b N L=>?_) ?_
    ·rw [d] at m;by_cases p:j=i
     ·simp [p] at m
     ·simp only [p,aG] at m;rw [Y b (by omega)];exact u j x m b N L
    ·have:((List.range ops.length).filter λj=>!Dn (c.setIfInBounds i true) j).length<((List.range ops.length).filter λj=>!Dn c j).length:=by
      rw [d];have C:((List.range ops.length).filter λj=>!(if j=i then true else Dn c j))=((List.range ops.length).filter λj=>!Dn c j).filter λj=>decide (j≠i):=by
       rw [CQ];congr 1;funext j;by_cases p:j=i<;>simp [p]
      rw [C];refine BZ.2 ⟨i,by simp [q,v],by simp⟩
     omega
  split
  ·rename_i y;rw [ad y] at H;exact .inl H
  ·rename_i y;rw [ab y] at H;exact H
def Hf {lim:Nat} {ι0:Inj} {w0:Base} {Q:Exit->Act->World->Prop} {po:Oper} {pr:Rec} {v:V} {wr:List (Nat×Blk)} (g:ops[lim]?=some po) (J:recs[lim]?=some pr)
  (O:uX P n nb0 ops lim po v wr pr.rd (appD 0 recs (λm=>decide (m<lim)) s0))
  (C:∀j,j<ops.length->j≠lim->live j\/Must ops lim j)
  (hQ:∀D,Down ops D->(∀e∈po.after.toList,Region.binds .any e=true->D e.on=true)->D lim=false->∀ι x a w,VR ι v x->Inv n ι0 w0 ι ((appD 0 recs D s0).app none none wr s0.nb) a w->Q (.panic [{ v:=x,recovered:=false }]) a w):
  ∀(fuel:Nat) (c:Array Bool) (ι:Inj) (a:Act) (w:World),c.size=ops.length->Down ops (Dn c)->Dn c lim=false->Inv n ι0 w0 ι (appD 0 recs (Dn c) s0) a w->
   (∀i,i<ops.length->Dn c i=false->∀b,nb0+8*i<=b->b<nb0+8*i+8->ι b=none)->((List.range ops.length).filter λi=>!Dn c i).length<=fuel->
   wpAny P .any ops.toArray Q fuel c a w:=by
 have I:lim<ops.length:=by
  rcases aI lim ops.length with h' | h'
  ·exact h'
  ·rw [dX h'] at g;cases g
 have fin:∀(c:Array Bool),c.size=ops.length->Dn c lim=false->Region.ready .any ops.toArray c=[]->False:=by
  intro c hs hp k;have G:∀j,j<ops.length->Dn c j=true:=by
   intro j
   induction j using Nat.strongRecOn with
   | _ j ih=>
    intro Y;cases X:Dn c j with
    | true=>rfl
    | false=>
     have f:ops[j]?=some ops[j]:=by simp [Y]
     have N:=xa hs f X λe he E=>ih e.on (F.down j _ e f he E) (by have:=F.down j _ e f he E;omega);rw [k] at N;cases N
  rw [G lim I] at hp;cases hp
 intro fuel
 induction fuel with
 | zero=>
  intro c ι a w hs p hp T l hc;have:lim∈(List.range ops.length).filter λi=>!Dn c i:=by simp [I,hp]
  have:=Aj this;omega
 | succ fuel ih=>
  intro c ι a w hs p hp T l hc;refine ⟨λk=>(fin c hs hp k).elim,λi hi=>?_⟩;obtain ⟨o,f,h,q,y⟩:=pi hs hi;obtain ⟨r,k⟩:=sB F f;have hoa:ops.toArray[i]?=some o:=by simpa using f
  unfold wpOp;rw [hoa];simp only;by_cases B:i=lim
  case neg=>
   rcases C i h B with S | N
   case inr=>
    have:=N.in p f y (λe=>B e.symm);rw [hp] at this;cases this
   have K:=(F.loc i o r f k).2 S;have d:Dn (c.setIfInBounds i true)=λj=>if j=i then true else Dn c j:=by
    funext j;exact uI (by omega) j
   have M:=K (appD 0 recs (Dn c) s0) (λt R=>wU F p f q y R) (λb E=>wc F p f k q y E) (by rw [jk,jk]) (by rw [gz,gz]) ι0 w0 ι a w T (l i h q)
    (wpAny P .any ops.toArray Q fuel (c.setIfInBounds i true)) Q λz a' w' U L=>by
     refine ih _ z a' w' (by simpa using hs) (by rw [d];exact p.add f y) (by rw [d];simp only [show ¬lim=i by omega,aG];exact hp) (by rw [d];exact L.eqv (vS F p f k q)) (λj Y s b Z W=>?_) ?_
     ·rw [d] at s;by_cases u:j=i
      ·simp [u] at s
      ·simp only [u,aG] at s;rw [U b (by omega)];exact l j Y s b Z W
     ·have:((List.range ops.length).filter λj=>!Dn (c.setIfInBounds i true) j).length<((List.range ops.length).filter λj=>!Dn c j).length:=by
       rw [d];have H:((List.range ops.length).filter λj=>!(if j=i then true else Dn c j))=((List.range ops.length).filter λj=>!Dn c j).filter λj=>decide (j≠i):=by
        rw [CQ];congr 1;funext j;by_cases u:j=i<;>simp [u]
       rw [H];refine BZ.2 ⟨i,by simp [h,q],by simp⟩
      omega
   split
   ·rename_i A;rw [ad A] at M;exact .inl M
   ·rename_i A;rw [ab A] at M;exact M
  case pos=>
   subst B;rw [g] at f;cases f;rw [J] at k;cases k
   obtain ⟨q1,q2⟩:=O (appD 0 recs (Dn c) s0) (λt R=>wU F p g q y R) (λb E=>wc F p g J q y E) (by rw [jk,jk]) (by rw [gz,gz]) ι0 w0 ι a w T (l i h q)
    (wpAny P .any ops.toArray Q fuel (c.setIfInBounds i true)) Q λz x w' U L=>hQ _ p y q z x a w' U (by rw [jk] at L;exact L)
   rw [ad q1];exact .inl q2
end
def yM:∀{l:List Nat} {j:Nat},l.length<=j->getN l j=0
 | [],_,_=>rfl
 | _::_,0,h=>by simp at h
 | _::l,j+1,h=>yM (l:=l) (by simpa using h)
def nZ:∀{l m:List Nat} {j:Nat},j<l.length->getN (l++m) j=getN l j
 | [],_,_,h=>by simp at h
 | _::_,_,0,_=>rfl
 | _::l,m,j+1,h=>nZ (l:=l) (m:=m) (by simpa using h)
def od:∀(l:List Nat) (x:Nat),getN (l++[x]) l.length=x
 | [],_=>rfl
 | _::l,x=>od l x
def oU(acc:List Nat):∀(l:List Edge) (s i:Nat),(xW acc l s).testBit i=true->s.testBit i=true\/∃e∈l,Region.binds .any e=true/\(e.on=i\/(getN acc e.on).testBit i=true)
 | [],s,i,h=>.inl h
 | e::l,s,i,h=>by
  simp only[xW]at h;split at h
  ·rename_i f;rcases oU acc l _ i h with a | ⟨c,b,d⟩
   ·simp only[Nat.testBit_or,fP]at a;rcases a with(a | a) | a
    ·exact .inl a
    ·refine .inr ⟨e,by simp,f,.inl ?_⟩;rw[Nat.testBit_two_pow]at a;simpa using a
    ·exact .inr ⟨e,by simp,f,.inr a⟩
   ·exact .inr ⟨c,gN _ b,d⟩
  ·rcases oU acc l _ i h with a | ⟨c,b,d⟩
   ·exact .inl a
   ·exact .inr ⟨c,gN _ b,d⟩
def mG(ops:List Oper):∀(r:List Oper) (acc:List Nat),(∀j,r[j]?=ops[acc.length+j]?)->(∀j i,(getN acc j).testBit i=true->Must ops i j)->
  ∀j i,(getN (iS r acc) j).testBit i=true->Must ops i j
 | [],acc,_,h=>h
 | o::r,acc,l,h=>by
  simp only[iS];refine mG ops r _ (λj=>by have:=l (j+1);simp only[An]at this;rw[this];simp;congr 1;omega) λj i a=>?_;rcases zZ j acc.length with d | f | p
  ·rw[nZ d]at a;exact h j i a
  ·subst f;rw[od]at a;have q:ops[acc.length]?=some o:=by have:=l 0;simpa using this.symm
   rcases oU acc _ _ _ a with b | ⟨e,n,c,b⟩
   ·simp at b
   ·intro D m g;have k:=m acc.length o e q g n c;rcases b with rfl | b
    ·exact k
    ·exact h e.on i b D m k
  ·rw[yM (by simp;omega)]at a;simp at a
def gV:∀(l:List Oper) (i:Nat),np i l=true->∀(j:Nat) (o:Oper) (e:Edge),l[j]?=some o->e∈o.after.toList->Region.binds .any e=true->e.on<i+j
 | [],_,_,_,_,_,h,_,_=>by simp at h
 | o::l,i,h,j,d,e,a,c,b=>by
  simp only[np,aC,ch]at h;cases j with
  | zero=>
   simp only[iE,aq]at a;subst a;have:=h.1 e c;simp only[b,dD,sU]at this;exact aJ this
  | succ j=>have:=gV l (i+1) h.2 j d e (by simpa using a) c b;omega
def n6{ops:Array Oper}{o:Oper}{a:Nat}:∀(l:List Oper) (i:Nat),pI ops o a i l=true->∀(j:Nat) (p:Oper),l[j]?=some p->a.testBit (i+j)=true\/p.apart ops o=true
 | [],_,_,_,_,h=>by simp at h
 | q::l,i,h,j,p,b=>by
  simp only[pI,aC,fP]at h;cases j with
  | zero=>simp only[iE,aq]at b;subst b;exact h.1
  | succ j=>have:=n6 l (i+1) h.2 j p (by simpa using b);rwa[show i+1+j=i+(j+1)by omega]at this
def kw{ops:Array Oper}{masks:List Nat}:∀(l a:List Oper),qe ops masks a.length a l=true->∀(i j:Nat) (x y:Oper),i<a.length+j->(a++l)[i]?=some x->l[j]?=some y->
  (getN masks (a.length+j)).testBit i=true\/x.apart ops y=true
 | [],_,_,_,_,_,_,_,_,h=>by simp at h
 | o::l,a,h,i,j,x,y,hi,hx,hy=>by
  simp only[qe,aC]at h;cases j with
  | zero=>
   simp only[iE,aq]at hy;subst hy;have:=n6 a 0 h.1 i x (by rw[lb (by simpa using hi)]at hx;exact hx);simpa using this
  | succ j=>
   have b:=h.2;rw[show a.length+1=(a++[o]).length by simp]at b;have:=kw l (a++[o]) b i j x y (by simp;omega) (by simpa using hx) (by simpa using hy);rwa[show(a++[o]).length+j=a.length+(j+1)by simp;omega]at this
def nh{masks:List Nat}:∀{tr:List TE},mg masks tr=true->∀x∈tr,∀y∈tr,x.i<y.i->tK masks x y=true\/tK masks y x=true
 | [],_,x,hx,_,_,_=>by cases hx
 | z::l,h,x,hx,y,hy,c=>by
  simp only[mg,aC,ch]at h;rcases bX.1 hx with b | b
  ·subst b;rcases bX.1 hy with a | a
   ·subst a;omega
   ·exact .inl (h.1 y a)
  ·rcases bX.1 hy with a | a
   ·subst a;exact .inr (h.1 x b)
   ·exact nh h.2 x b y a c
def sd{x y:TE}(h:Kr x y=false):(∀b∈x.ws,b∉y.rd/\b∉y.ws)/\∀b∈x.rd,b∉y.ws:=by
 simp only[Kr,Bn,pT,fP,not_or,List.contains_iff_mem]at h;exact⟨λb a=>h.1 b a,λb a=>h.2 b a⟩
def xO{masks:List Nat}{x y:TE}(h:tK masks x y=true\/tK masks y x=true)(e:x.i<y.i):
  (getN masks y.i).testBit x.i=true\/((∀b∈x.ws,b∉y.rd/\b∉y.ws)/\∀b∈x.rd,b∉y.ws):=by
 have k:Nat.blt x.i y.i=true:=dl e;have g:Nat.blt y.i x.i=false:=by
  cases f:Nat.blt y.i x.i with
  | false=>rfl
  | true=>have:y.i<x.i:=aJ f;omega
 rcases h with h | h
 ·simp only[tK,k,am,fP,jd]at h;exact h.imp id sd
 ·simp only[tK,g,af,fP,jd]at h;refine h.imp id λh=>?_;obtain⟨a,b⟩:=sd h;exact⟨λc hc=>⟨λj=>b c j hc,λd=>(a c d).2 hc⟩,λc hc d=>(a c d).1 hc⟩
def qk:∀(ops:List Oper) {T:List (Nat×Option V)} (t:Nat) (v:V),look (Dm ops T) t=some (some v)->(∀o∈ops,o.dst≠some t)/\look T t=some (some v)
 | [],T,t,v,h=>⟨by simp,h⟩
 | o::l,T,t,v,h=>by
  simp only[Dm]at h;split at h
  ·rename_i d c;rw[aO]at h;split at h
   ·cases h
   ·rename_i b;obtain⟨f,a⟩:=qk l t v h;refine⟨λx hx=>?_,a⟩;rcases bX.1 hx with rfl | hx
    ·rw[c];intro e;cases e;exact b rfl
    ·exact f x hx
  ·rename_i c;obtain⟨f,a⟩:=qk l t v h;refine⟨λx hx=>?_,a⟩;rcases bX.1 hx with rfl | hx
   ·rw[c];intro e;cases e
   ·exact f x hx
def DJ{α:Type}{E:List Ent}(hE:∀x∈E,ib P x){n:Nat}{ops:List Oper}{s:St}{k:Ex->St->Option α}{z:α}(h:zB P E n ops s k=some z)(id:Nat):
  SemC P n (.region id ops.toArray true) s λex s'=>k ex s'=some z:=by
 intro ι0 w0 ι a w hI;unfold zB at h;split at h
 case h_2=>cases h
 rename_i hok;simp only[aC,AO]at hok;obtain⟨⟨hb1,hb2,_⟩,R⟩:=hok;have g:=mG ops ops [] (by simp) (λj i u=>by simp[getN]at u);have hI1:Inv n ι0 w0 ι { s with nb:=s.nb+8*ops.length } a { w with drawn:=w.drawn+1 }:=by
  have d:=hI.drawn (w.drawn+1);exact⟨d.size,d.defers,d.tmps,⟨d.mem.inj,λb r u=>by have:=d.mem.low b r u;simp only;omega,d.mem.dom,d.mem.blk⟩,d.ext,d.new,d.fr,d.low,d.fz,d.gl⟩
 have K:∀i,Dn (Array.replicate ops.toArray.size false) i=false:=by
  intro i;unfold Dn;simp only[nD,Na];split<;>rfl
 have hno:∀(l:List Rec) (i:Nat) (D:Nat->Bool) (s:St),(∀j,D j=false)->appD i l D s=s:=by
  intro l
  induction l with
  | nil=>intros;rfl
  | cons r l ih=>intro i D s hD;simp only[appD,hD i,cj,aG];exact ih _ D s hD
 have C:∀(trf:List TE) (x y:Rec) (i j:Nat),mg (iS ops []) (trf.filter λx=>!(x.rd.isEmpty&&x.ws.isEmpty))=true->i<j->((⟨0+i,x.rd,keys x.wr⟩:TE)∈trf\/(x.rd=[]/\x.wr=[]))->((⟨0+j,y.rd,keys y.wr⟩:TE)∈trf\/(y.rd=[]/\y.wr=[]))->
   Must ops i j\/((∀b∈keys x.wr,b∉y.rd/\b∉keys y.wr)/\∀b∈x.rd,b∉keys y.wr):=by
  intro trf x y i j G B hx hy;rcases hx with hxm | ⟨hx1,hx2⟩
  ·rcases hy with hym | ⟨hy1,hy2⟩
   ·simp only[bV]at hxm hym;by_cases X:(x.rd=[]/\x.wr=[])
    ·exact .inr (by simp[X.1,X.2,keys])
    ·by_cases he2:(y.rd=[]/\y.wr=[])
     ·exact .inr (by simp[he2.1,he2.2,keys])
     ·have m1:(⟨i,x.rd,keys x.wr⟩:TE)∈trf.filter λx=>!(x.rd.isEmpty&&x.ws.isEmpty):=by
       refine jm.2 ⟨hxm,?_⟩;simp only[keys,jd,CL,BB];rcases By (x.rd=[])with h | h
       ·exact .inr (by simpa usingλhw=>X ⟨h,hw⟩)
       ·exact .inl h
      have m2:(⟨j,y.rd,keys y.wr⟩:TE)∈trf.filter λx=>!(x.rd.isEmpty&&x.ws.isEmpty):=by
       refine jm.2 ⟨hym,?_⟩;simp only[keys,jd,CL,BB];rcases By (y.rd=[])with h | h
       ·exact .inr (by simpa usingλhw=>he2 ⟨h,hw⟩)
       ·exact .inl h
      have:=xO (nh G _ m1 _ m2 B) B;exact this.imp (g j i) λh=>h
   ·exact .inr (by simp[hy1,hy2,keys])
  ·exact .inr (by simp[hx1,hx2,keys])
 rcases wH hE ops 0 _ [] (by simp) h with⟨recs,O,trf,g1,S,Q,_,U,g6⟩ | ⟨p,po,recs,O,sp,trf,v,wr,rp,g1,g0,gr,gd,gw,rfl,S,Q,_,g7,U,g6⟩
 ·split at S
  case h_2=>cases S
  rename_i G;have F:DrawFacts P n s.nb ops recs { s with nb:=s.nb+8*ops.length } (λ_=>True):=by
   refine⟨g1,rfl,λj o r N W=>?_,λj o e N he u=>?_,λi j x y B hx hy=>?_,λi j x y B hx hy=>?_⟩
   ·obtain⟨p1,p2⟩:=g6 j o r N W;simp only[bV]at p2;have e:=mX recs 0 j { s with nb:=s.nb+8*ops.length };simp only[bV]at e;exact⟨λt V=>p1▸V,λ_=>p2.eqv e⟩
   ·have:=gV ops 0 hb1 j o e N he u;omega
   ·have:=kw (masks:=iS ops []) ops [] hb2 i j x y (by simpa using B) (by simpa using hx) hy;simp only[iN,bV]at this;exact this.imp (g j i) λh=>h
   ·exact C trf x y i j G B (U i x hx) (U j y hy)
  refine wp_region_any R (xX (kk:=0) F (λ_ _ _=>trivial) (λI a' w' f=>⟨.normal,O,I,rfl,f.eqv Q.symm,S⟩) _ _ ι a _ (by simp) (λj Z=>by omega) (λj o e _ L=>by rw[K j]at L;cases L) (by rw[hno recs 0 _ _ K];exact hI1) (λi _ _ b u _=>?_) ?_)
  ·exact hI.fresh b (by omega)
  ·have:=CW (λi=>!Dn (Array.replicate ops.toArray.size false) i) (List.range ops.length);simpa using this
 ·split at S
  case h_2=>cases S
  rename_i hpk;simp only[aC,MZ]at hpk;obtain⟨hw,G⟩:=hpk;simp only[bV]at S g7 hw;have B:p<ops.length:=by
   rcases aI p ops.length with h' | h'
   ·exact h'
   ·rw[dX h']at g0;cases g0
  have A:∀i r,recs[i]?=some r->i≠p->(i<p/\Must ops i p)\/r.wr=[]:=by
   intro i r W J;rcases U i r W J with hx | hx
   ·have:=(ch.1 hw) _ hx;simp only[bV,fP,aC]at this;rcases this with h | h
    ·right;simpa[keys]using h
    ·exact .inl ⟨aJ h.1,g p i h.2⟩
   ·exact .inr hx.2
  have g5':∀(j:Nat) (r:Rec),recs[j]?=some r->j≠p->(⟨0+j,r.rd,keys r.wr⟩:TE)∈trf\/(r.rd=[]/\r.wr=[]):=U;have F:DrawFacts P n s.nb ops recs { s with nb:=s.nb+8*ops.length } (λj=>j<p\/(p<j/\(getN (iS ops []) (0+j)).testBit (0+p)=false)):=by
   refine⟨g1,rfl,λj o r N W=>?_,λj o e N he u=>?_,λi j x y Y hx hy=>?_,λi j x y Y hx hy=>?_⟩
   ·obtain⟨p1,p2⟩:=g6 j o r N W;have e:=mX recs 0 j { s with nb:=s.nb+8*ops.length };simp only[bV]at e p2 ⊢;exact⟨λt V=>p1▸V,λhc=>(p2 hc).eqv e⟩
   ·have:=gV ops 0 hb1 j o e N he u;omega
   ·have:=kw (masks:=iS ops []) ops [] hb2 i j x y (by simpa using Y) (by simpa using hx) hy;simp only[iN,bV]at this;exact this.imp (g j i) λh=>h
   ·by_cases J:i=p
    ·
     subst J;rw[gr]at hx;cases hx;rcases A j y hy (by omega)with⟨h,_⟩ | h
     ·omega
     ·exact .inr (by simp[gw,h,keys])
    ·by_cases M:j=p
     ·subst M;rw[gr]at hy;cases hy;rcases A i x hx J with⟨_,h⟩ | h
      ·exact .inl h
      ·exact .inr (by simp[gw,h,keys])
     ·exact C trf x y i j G Y (U i x hx J) (U j y hy M)
  have c:Eqv ((recs.take p).foldl St.put { s with nb:=s.nb+8*ops.length }) (appD 0 recs (λm=>decide (m<p)) { s with nb:=s.nb+8*ops.length }):=by
   have e:=mX recs 0 p { s with nb:=s.nb+8*ops.length };simpa using e
  have hdead:∀j,j<ops.length->j≠p->(j<p\/(p<j/\(getN (iS ops []) (0+j)).testBit (0+p)=false))\/Must ops p j:=by
   intro j _ hne;cases u:(getN (iS ops []) (0+j)).testBit (0+p)with
   | false=>exact .inl ((Nat.lt_or_gt_of_ne hne).imp (λh=>h) λh=>⟨h,rfl⟩)
   | true=>simp only[bV]at u;exact .inr (g j p u)
  refine wp_region_any R (Hf F g0 gr (g7.eqv c) hdead (λD hD hd hn I x a' w' hv f=>⟨.pan v,_,I,⟨x,rfl,hv⟩,?inv,S⟩) _ _ ι a _ (by simp) (λj o e _ L=>by rw[K j]at L;cases L) (K p) (by rw[hno _ 0 _ _ K];exact hI1) (λi _ _ b u _=>?fresh) ?len)
  case inv=>
   have hH:∀b,look O.H b=look (appD 0 recs D { s with nb:=s.nb+8*ops.length }).H b:=by
    intro b;rw[Q.H,c.H,rK,rK];refine mE _ 0 _ _ b _ λj r Z u=>?_;simp only[bV];by_cases M:j=p
    ·subst M;rw[gr]at Z;cases Z;rw[gw]at u;simp[keys]at u
    ·rcases A j r Z M with⟨d,hm⟩ | hm
     ·rw[hm.in hD g0 hd (by omega)];simp[d]
     ·rw[hm]at u;simp[keys]at u
   have hT:∀t v,look (Dm ops s.T) t=some (some v)->look (appD 0 recs D { s with nb:=s.nb+8*ops.length }).T t=some (some v):=by
    intro t v V;obtain⟨d,h2⟩:=qk ops t v V;rw[uU,ve _ 0 D t _ λj r Z W=>?_]
    ·exact h2
    ·exfalso;obtain⟨o,N⟩:=sG F Z;exact d o (dY N) ((F.loc j o r N Z).1 t W)
   refine⟨f.size,f.defers,λt v V=>f.tmps t v (hT t v V),⟨f.mem.inj,λb r u=>?_,f.mem.dom,λb blk hl hdd=>f.mem.blk b blk ?_ hdd⟩,?_,f.new,?_,λb r u=>?_,?_,?_⟩
   ·have:=f.mem.low b r u;have e:=Q.nb.trans c.nb;rw[jk]at e;show b<O.nb;rw[e];exact this
   ·show look (wr++(appD 0 recs D { s with nb:=s.nb+8*ops.length }).H) b=_;rw[mH,<-hH b,<-mH];exact hl
   ·have e:=Q.rb.trans c.rb;rw[sP]at e;have d:=f.ext;show ∀b q,ι0 b=some q->I b=some q\/O.rb<=b;rw[e];simp only[St.app,sP]at d;exact d
   ·have e:=Q.ro.trans c.ro;rw[gz]at e;have d:=f.fr;show Fr (roI ι0 O.ro) w0.w w';rw[e];simp only[St.app,gz]at d;exact d
   ·have e:=Q.lo.trans c.lo;rw[sD]at e;have d:=f.low b r u;show b<O.lo;rw[e];simp only[St.app,sD]at d;exact d
   ·have e:=Q.ro.trans c.ro;rw[gz]at e;have d:=f.fz;show ∀b q,I b=some (some q)->q.fz=true->b<O.ro;rw[e];simp only[St.app,gz]at d;exact d
   ·have e:=Q.ro.trans c.ro;rw[gz]at e;have d:=f.gl;show GL (roI ι0 O.ro) w0.w;rw[e];simp only[St.app,gz]at d;exact d
  case fresh=>exact hI.fresh b (by omega)
  case len=>
   have:=CW (λi=>!Dn (Array.replicate ops.toArray.size false) i) (List.range ops.length);simpa using this
end Go.Abs
