
import Derived.Test.YtjkmipianfkncaaGreatDoorAbsM
set_option linter.unusedSimpArgs false
set_option linter.unusedVariables false
set_option linter.defProp false
namespace Go.Abs
variable {P:Program}
structure Rec where
 dst:Option Nat
 val:Option V
 wr:List (Nat×Blk)
 rd:List Nat
def St.put(s:St)(r:Rec):St:=s.app r.dst r.val r.wr s.nb
def keys(wr:List (Nat×Blk)):List Nat:=wr.map (·.1)
def pG{α:Type}(l m:List (Nat×α))(n:Nat):look (l++m) n=(look l n).or (look m n):=by
 induction l with
 | nil=>rfl
 | cons x l ih=>
  obtain⟨k,v⟩:=x;rw[dB,aR,aR];split
  ·rfl
  ·exact ih
def qD{α:Type}{l:List (Nat×α)}{n:Nat}(h:n∉l.map (·.1)):look l n=none:=by
 induction l with
 | nil=>rfl
 | cons x l ih=>
  obtain⟨k,v⟩:=x;simp only[fV,de,not_or]at h;rw[aR,ab (λe=>h.1 e.symm)];exact ih h.2
def rF{α:Type}{l:List (Nat×α)}{n:Nat}(h:n∈l.map (·.1)):∃v,look l n=some v:=by
 induction l with
 | nil=>simp at h
 | cons x l ih=>
  obtain⟨k,v⟩:=x;rw[aR];split
  ·exact⟨v,rfl⟩
  ·rename_i a;simp only[fV,de]at h;exact ih (h.resolve_left λe=>a e.symm)
def PU(s:St)(r:Rec)(t:Nat):look (s.put r).T t=if r.dst=some t then some r.val else look s.T t:=by
 unfold St.put St.app;cases hd:r.dst with
 | none=>simp
 | some d=>
  simp only[aR];by_cases h:d=t
  ·subst h;simp
  ·simp[h]
def OC(s:St)(r:Rec)(b:Nat):look (s.put r).H b=(look r.wr b).or (look s.H b):=pG _ _ _
def Wa(s:St)(r:Rec):(s.put r).nb=s.nb:=rfl
structure Eqv(s s':St):Prop where
 T:∀t,look s.T t=look s'.T t
 H:∀b,look s.H b=look s'.H b
 nb:s.nb=s'.nb
 lo:s.lo=s'.lo
 ro:s.ro=s'.ro
 rb:s.rb=s'.rb
def Eqv.refl(s:St):Eqv s s:=⟨λ_=>rfl,λ_=>rfl,rfl,rfl,rfl,rfl⟩
def Eqv.symm{s s':St}(h:Eqv s s'):Eqv s' s:=⟨λt=>(h.T t).symm,λb=>(h.H b).symm,h.nb.symm,h.lo.symm,h.ro.symm,h.rb.symm⟩
def Eqv.trans{a b c:St}(h:Eqv a b)(k:Eqv b c):Eqv a c:=⟨λt=>(h.T t).trans (k.T t),λt=>(h.H t).trans (k.H t),h.nb.trans k.nb,h.lo.trans k.lo,h.ro.trans k.ro,h.rb.trans k.rb⟩
def Eqv.put{s s':St}(h:Eqv s s')(r:Rec):Eqv (s.put r) (s'.put r):=
 ⟨λt=>by rw[PU,PU,h.T],λb=>by rw[OC,OC,h.H],h.nb,h.lo,h.ro,h.rb⟩
def Eqv.puts:∀(l:List Rec) {s s':St},Eqv s s'->Eqv (l.foldl St.put s) (l.foldl St.put s')
 | [],_,_,h=>h
 | r::l,_,_,h=>Eqv.puts l (h.put r)
def Inv.eqv{n:Nat}{ι0 ι:Inj}{w0:Base}{s s':St}{a:Act}{w:World}(h:Inv n ι0 w0 ι s a w)(e:Eqv s s'):Inv n ι0 w0 ι s' a w:=
 ⟨h.size,h.defers,λt v F=>h.tmps t v (by rw[e.T];exact F),⟨h.mem.inj,λb r C=>by rw[<-e.nb];exact h.mem.low b r C,h.mem.dom,λb blk E hd=>h.mem.blk b blk (by rw[e.H];exact E) hd⟩,by rw[<-e.rb];exact h.ext,h.new,by rw[<-e.ro];exact h.fr,λb r C=>by rw[<-e.lo];exact h.low b r C,by rw[<-e.ro];exact h.fz,by rw[<-e.ro];exact h.gl⟩
def appD:Nat->List Rec->(Nat->Bool)->St->St
 | _,[],_,s=>s
 | i,r::l,D,s=>appD (i+1) l D (if D i=true then s.put r else s)
def xP:Nat->List Rec->(Nat->Bool)->Nat->Option (Option V)->Option (Option V)
 | _,[],_,_,x=>x
 | i,r::l,D,t,x=>xP (i+1) l D t (if D i=true/\r.dst=some t then some r.val else x)
def wE:Nat->List Rec->(Nat->Bool)->Nat->Option Blk->Option Blk
 | _,[],_,_,x=>x
 | i,r::l,D,b,x=>wE (i+1) l D b (if D i=true then(look r.wr b).or x else x)
def zu:∀(l:List Rec) (i:Nat) (D:Nat->Bool) (s:St) (t:Nat),look (appD i l D s).T t=xP i l D t (look s.T t)
 | [],_,_,_,_=>rfl
 | r::l,i,D,s,t=>by
  simp only[appD,xP,zu l];congr 1;cases D i
  ·simp
  ·simp only[jD,aG];rw[PU]
def wI:∀(l:List Rec) (i:Nat) (D:Nat->Bool) (s:St) (b:Nat),look (appD i l D s).H b=wE i l D b (look s.H b)
 | [],_,_,_,_=>rfl
 | r::l,i,D,s,b=>by
  simp only[appD,wE,wI l];congr 1;cases D i
  ·simp
  ·simp only[aG];rw[OC]
def lK:∀(l:List Rec) (i:Nat) (D:Nat->Bool) (s:St),(appD i l D s).nb=s.nb
 | [],_,_,_=>rfl
 | r::l,i,D,s=>by
  simp only[appD,lK l];split<;>rfl
def ji:∀(l:List Rec) (i:Nat) (D:Nat->Bool) (s:St),(appD i l D s).ro=s.ro
 | [],_,_,_=>rfl
 | r::l,i,D,s=>by
  simp only[appD,ji l];split<;>rfl
def wM:∀(l:List Rec) (i:Nat) (D:Nat->Bool) (s:St),(appD i l D s).lo=s.lo
 | [],_,_,_=>rfl
 | r::l,i,D,s=>by
  simp only[appD,wM l];split<;>rfl
def yd:∀(l:List Rec) (i:Nat) (D:Nat->Bool) (s:St),(appD i l D s).rb=s.rb
 | [],_,_,_=>rfl
 | r::l,i,D,s=>by
  simp only[appD,yd l];split<;>rfl
def sP:∀(l:List Rec) (i:Nat) (D a:Nat->Bool) (t:Nat) (x:Option (Option V)),(∀j r,l[j]?=some r->r.dst=some t->D (i+j)=a (i+j))->xP i l D t x=xP i l a t x
 | [],_,_,_,_,_,_=>rfl
 | r::l,i,D,a,t,x,h=>by
  simp only[xP];have b:=h 0 r (by simp);simp only[cG]at b;rw[sP l (i+1) D a t _ λj c d e=>by have:=h (j+1) c (by simpa using d) e;rwa[show i+(j+1)=i+1+j by omega]at this];congr 1;by_cases hd:r.dst=some t
  ·rw[b hd]
  ·simp[hd]
def y7(l:List Rec)(i:Nat)(D:Nat->Bool)(t:Nat)(x:Option (Option V))(h:∀j r,l[j]?=some r->r.dst=some t->D (i+j)=false):xP i l D t x=x:=by
 induction l generalizing i x with
 | nil=>rfl
 | cons r l ih=>
  simp only[xP];have b:=h 0 r (by simp);simp only[cG]at b;have:¬(D i=true/\r.dst=some t):=λ⟨a,e⟩=>by rw[b e]at a;cases a
  rw[ab this];exact ih (i+1) x λj c d f=>by have:=h (j+1) c (by simpa using d) f;rwa[show i+(j+1)=i+1+j by omega]at this
def F5:∀(l:List Rec) (i j:Nat) (D:Nat->Bool) (t:Nat) (x:Option (Option V)) (r:Rec),l[j]?=some r->D (i+j)=true->r.dst=some t->
  (∀k b,j<k->l[k]?=some b->b.dst=some t->D (i+k)=false)->xP i l D t x=some r.val
 | [],_,_,_,_,_,_,h,_,_,_=>by simp at h
 | r0::l,i,0,D,t,x,r,h,c,hd,a=>by
  simp only[mC,ar]at h;subst h;simp only[cG]at c;simp only[xP];rw[ae ⟨c,hd⟩];exact y7 l (i+1) D t _ λk b e d=>by have:=a (k+1) b (by omega) (by simpa using e) d;rwa[show i+(k+1)=i+1+k by omega]at this
 | r0::l,i,j+1,D,t,x,r,h,c,hd,a=>by
  simp only[xP]
  exact F5 l (i+1) j D t _ r (by simpa using h) (by rwa[show i+1+j=i+(j+1)by omega]) hd λk b e f d=>by
   have:=a (k+1) b (by omega) (by simpa using f) d;rwa[show i+(k+1)=i+1+k by omega]at this
def pt:∀(l:List Rec) (i:Nat) (D a:Nat->Bool) (b:Nat) (x:Option Blk),(∀j r,l[j]?=some r->b∈keys r.wr->D (i+j)=a (i+j))->wE i l D b x=wE i l a b x
 | [],_,_,_,_,_,_=>rfl
 | r::l,i,D,a,b,x,h=>by
  simp only[wE];have c:=h 0 r (by simp);simp only[cG]at c;rw[pt l (i+1) D a b _ λj d e f=>by have:=h (j+1) d (by simpa using e) f;rwa[show i+(j+1)=i+1+j by omega]at this];congr 1;by_cases hd:b∈keys r.wr
  ·rw[c hd]
  ·simp[qD hd]
def I1(l:List Rec)(i:Nat)(D:Nat->Bool)(b:Nat)(x:Option Blk)(h:∀j r,l[j]?=some r->b∈keys r.wr->D (i+j)=false):wE i l D b x=x:=by
 induction l generalizing i x with
 | nil=>rfl
 | cons r l ih=>
  simp only[wE];have a:=h 0 r (by simp);simp only[cG]at a;have:(if D i=true then(look r.wr b).or x else x)=x:=by
   by_cases hd:b∈keys r.wr
   ·rw[a hd];simp
   ·rw[qD hd];simp
  rw[this];exact ih (i+1) x λj e d c=>by have:=h (j+1) e (by simpa using d) c;rwa[show i+(j+1)=i+1+j by omega]at this
def GB:∀(l:List Rec) (i j:Nat) (D:Nat->Bool) (b:Nat) (x:Option Blk) (r:Rec),l[j]?=some r->D (i+j)=true->b∈keys r.wr->
  (∀k c,j<k->l[k]?=some c->b∈keys c.wr->D (i+k)=false)->wE i l D b x=look r.wr b
 | [],_,_,_,_,_,_,h,_,_,_=>by simp at h
 | r0::l,i,0,D,b,x,r,h,d,hd,a=>by
  simp only[mC,ar]at h;subst h;simp only[cG]at d;simp only[wE];obtain⟨v,m⟩:=rF hd;rw[ae d,m];exact I1 l (i+1) D b _ λk c f e=>by have:=a (k+1) c (by omega) (by simpa using f) e;rwa[show i+(k+1)=i+1+k by omega]at this
 | r0::l,i,j+1,D,b,x,r,h,d,hd,a=>by
  simp only[wE]
  exact GB l (i+1) j D b _ r (by simpa using h) (by rwa[show i+1+j=i+(j+1)by omega]) hd λk c f g e=>by
   have:=a (k+1) c (by omega) (by simpa using g) e;rwa[show i+(k+1)=i+1+k by omega]at this
def qx:∀(l:List Rec) (i j:Nat) (s:St),Eqv ((l.take j).foldl St.put s) (appD i l (λm=>decide (m<i+j)) s)
 | [],i,j,s=>by simp[appD];exact Eqv.refl s
 | r::l,i,0,s=>by
  have:∀(l:List Rec) (i a:Nat) (s:St),i<=a->appD a l (λm=>decide (m<i)) s=s:=by
   intro l
   induction l with
   | nil=>intros;rfl
   | cons r l ih=>intro i a s h;simp only[appD,show¬a<i by omega,nK,bj,az];exact ih i (a+1) s (by omega)
  simp only[ot,GU,cG];rw[this (r::l) i i s (aQ _)];exact Eqv.refl s
 | r::l,i,j+1,s=>by
  simp only[pf,vb,appD,show i<i+(j+1)by omega,oc,aG];have:=qx l (i+1) j (s.put r);rwa[show(λm=>decide (m<i+1+j))=λm=>decide (m<i+(j+1))by funext m;simp only[pC];omega]at this
def An:∀(l:List Rec) (i:Nat) (D:Nat->Bool) (s:St),(∀j,j<l.length->D (i+j)=true)->appD i l D s=l.foldl St.put s
 | [],_,_,_,_=>rfl
 | r::l,i,D,s,h=>by
  have a:=h 0 (by simp);simp only[cG]at a;simp only[appD,a,aG,vb];exact An l (i+1) D _ λj b=>by have:=h (j+1) (by simpa using b);rwa[show i+(j+1)=i+1+j by omega]at this
def ui(P:Program)(n nb0:Nat)(ops:List Oper)(i:Nat)(o:Oper)(r:Rec)(base:St):Prop:=
 ∀s':St,(∀t∈o.looksAt ops.toArray,look s'.T t=look base.T t)->(∀b∈r.rd,look s'.H b=look base.H b)->s'.nb=base.nb->s'.ro=base.ro->
  ∀(ι0:Inj) (w0:Base) (ι:Inj) (a:Act) (w:World),Inv n ι0 w0 ι s' a w->(∀b,nb0+8*i<=b->b<nb0+8*i+8->ι b=none)->∀(K:Act->World->Prop) (Q:Exit->Act->World->Prop),
   (∀c d w',(∀b,(b<nb0+8*i\/nb0+8*i+8<=b)->c b=ι b)->Inv n ι0 w0 c (s'.put r) d w'->K d w')->
   if Region.wanted o (yielded ops.toArray a.tmps)then o.wp P a w K Q else K (a.put o.dst undef) w
def zl(P:Program)(n nb0:Nat)(ops:List Oper)(i:Nat)(o:Oper)(v:V)(wr:List (Nat×Blk))(rd:List Nat)(base:St):Prop:=
 ∀s':St,(∀t∈o.looksAt ops.toArray,look s'.T t=look base.T t)->(∀b∈rd,look s'.H b=look base.H b)->s'.nb=base.nb->s'.ro=base.ro->
  ∀(ι0:Inj) (w0:Base) (ι:Inj) (a:Act) (w:World),Inv n ι0 w0 ι s' a w->(∀b,nb0+8*i<=b->b<nb0+8*i+8->ι b=none)->∀(K:Act->World->Prop) (Q:Exit->Act->World->Prop),
   (∀c x w',VR c v x->Inv n ι0 w0 c (s'.app none none wr s'.nb) a w'->Q (.panic [{ v:=x,recovered:=false }]) a w')->
   Region.wanted o (yielded ops.toArray a.tmps)=true/\o.wp P a w K Q
def zl.eqv{n nb0:Nat}{ops:List Oper}{i:Nat}{o:Oper}{v:V}{wr:List (Nat×Blk)}{rd:List Nat}{base C:St}(h:zl P n nb0 ops i o v wr rd base)(e:Eqv base C):zl P n nb0 ops i o v wr rd C:=
 λs' J O F E=>h s' (λt G=>by rw[J t G,e.T]) (λb Q=>by rw[O b Q,e.H]) (by rw[F,e.nb]) (by rw[E,e.ro])
def ui.eqv{n nb0:Nat}{ops:List Oper}{i:Nat}{o:Oper}{r:Rec}{base C:St}(h:ui P n nb0 ops i o r base)(e:Eqv base C):ui P n nb0 ops i o r C:=
 λs' J O F E=>h s' (λt G=>by rw[J t G,e.T]) (λb Q=>by rw[O b Q,e.H]) (by rw[F,e.nb]) (by rw[E,e.ro])
def zE{α:Type}{ops:List Oper}{o:Oper}{s:St}{k:Bool->St->Option α}{z:α}(h:xh ops o s k=some z):
  ∃c q,k c q=some z/\Eqv q s/\∀s':St,(∀t∈o.looksAt ops.toArray,look s'.T t=look s.T t)->∀(n:Nat) (ι0 ι:Inj) (w0:Base) (a:Act) (w:World),Inv n ι0 w0 ι s' a w->
   Region.wanted o (yielded ops.toArray a.tmps)=c:=by
 unfold xh at h;split at h
 ·rename_i i;exact⟨true,s,h,Eqv.refl s,λ_ _ _ _ _ _ _ _ _=>by simp[Region.wanted,i]⟩
 ·rename_i j c i;split at h
  case h_2=>cases h
  rename_i d hd;have f:d∈o.looksAt ops.toArray:=by
   unfold Oper.looksAt;unfold gtmp at hd;split at hd
   ·rename_i u p;simp[i,p,hd]
   ·cases hd
  have again:∀x,look s.T d=some (some (.b x))->Eqv { s with T:=(d,some (V.b x))::s.T } s:=by
   intro x hx;refine⟨λt=>?_,λ_=>rfl,rfl,rfl,rfl,rfl⟩;show look ((d,some (V.b x))::s.T) t=look s.T t;rw[aR];split
   ·rename_i e;subst e;exact hx.symm
   ·rfl
  split at h
  ·rename_i x hx;cases x
   ·refine⟨!c,_,h,again _ hx,λs' hs n ι0 ι w0 a w m=>?_⟩;obtain⟨y,l,g⟩:=m.tmps d _ (by rw[hs d f];exact hx);simp only[VR]at g;subst g;have hy:=rl hd a.tmps;rw[l]at hy;cases c<;>simp[Region.wanted,i,hy]
   ·refine⟨c,_,h,again _ hx,λs' hs n ι0 ι w0 a w m=>?_⟩;obtain⟨y,l,g⟩:=m.tmps d _ (by rw[hs d f];exact hx);simp only[VR]at g;subst g;have hy:=rl hd a.tmps;rw[l]at hy;cases c<;>simp[Region.wanted,i,hy]
  ·rename_i hx;refine⟨false,s,h,Eqv.refl s,λs' hs n ι0 ι w0 a w m=>?_⟩;obtain⟨y,l,g⟩:=m.tmps d _ (by rw[hs d f];exact hx);simp only[VR]at g;obtain⟨r,rfl,_⟩:=g;have hy:=rl hd a.tmps;rw[l]at hy;simp[Region.wanted,i,hy]
  ·cases h
def xl{ops:Array Oper}{o:Oper}{s s':St}(h:∀t∈o.looksAt ops,look s'.T t=look s.T t):∀x∈o.op.operands.toList,opd s'.T x=opd s.T x:=by
 intro x hx;cases x with
 | tmp t=>
  have:=h t (by
   unfold Oper.looksAt;simp only[mF,List.mem_filterMap];exact .inl ⟨.tmp t,hx,rfl⟩)
  simp only[opd,this]
 | _=>rfl
def Jo{α:Type}{E:List Ent}(V:∀x∈E,gg P x){n nb0:Nat}{ops:List Oper}{masks:List Nat}{p:Nat}{k:List TE->Option α}{z:α}:∀(l:List Oper) (i:Nat) (s:St) (tr:List TE),
  nb0+8*(i+l.length)<=s.nb->runB P E n nb0 ops masks p i l s tr k=some z->
  ∃(recs:List Rec) (trf:List TE),recs.length=l.length/\k trf=some z/\(∀x∈tr,x∈trf)/\
   (∀j r,recs[j]?=some r->(⟨i+j,r.rd,keys r.wr⟩:TE)∈trf\/(r.rd=[]/\r.wr=[]))/\
   ∀(j:Nat) (o:Oper) (r:Rec),l[j]?=some o->recs[j]?=some r->r.dst=o.dst/\((getN masks (i+j)).testBit p=false->ui P n nb0 ops (i+j) o r ((recs.take j).foldl St.put s))
 | [],i,s,tr,D,h=>⟨[],tr,rfl,h,λ_ h=>h,λj r h=>by simp at h,λj o r h=>by simp at h⟩
 | o::l,i,s,tr,D,h=>by
  simp only[aN]at D;simp only[runB]at h;have more:∀(e:Rec) (c:List TE) (y:St),e.dst=o.dst->((getN masks i).testBit p=false->ui P n nb0 ops i o e s)->Eqv y (s.put e)->s.nb<=y.nb->(∀x∈tr,x∈c)->((⟨i,e.rd,keys e.wr⟩:TE)∈c\/(e.rd=[]/\e.wr=[]))->
    runB P E n nb0 ops masks p (i+1) l y c k=some z->∃(recs:List Rec) (trf:List TE),recs.length=(o::l).length/\k trf=some z/\(∀x∈tr,x∈trf)/\
   (∀j r,recs[j]?=some r->(⟨i+j,r.rd,keys r.wr⟩:TE)∈trf\/(r.rd=[]/\r.wr=[]))/\
   ∀(j:Nat) (C:Oper) (r:Rec),(o::l)[j]?=some C->recs[j]?=some r->r.dst=C.dst/\((getN masks (i+j)).testBit p=false->ui P n nb0 ops (i+j) C r ((recs.take j).foldl St.put s)):=by
   intro e c y hd hl e2 hnb2 M S h;obtain⟨recs,trf,g1,g2,Y,g5,g6⟩:=Jo V l (i+1) y c (by omega) h;refine⟨e::recs,trf,by simp[g1],g2,λx hx=>Y x (M x hx),λj r m=>?_,λj C r N m=>?_⟩
   ·cases j with
    | zero=>simp only[mC,ar]at m;subst m;exact S.imp (Y _) id
    | succ j=>have:=g5 j r (by simpa using m);rwa[show i+1+j=i+(j+1)by omega]at this
   ·cases j with
    | zero=>
     simp only[mC,ar]at N m;subst N m;exact⟨hd,hl⟩
    | succ j=>
     obtain⟨p1,W⟩:=g6 j C r (by simpa using N) (by simpa using m);rw[show i+1+j=i+(j+1)by omega]at W;exact⟨p1,λq=>(W q).eqv (by simpa using Eqv.puts (recs.take j) e2)⟩
  split at h
  ·rename_i B;exact more ⟨o.dst,none,[],[]⟩ tr (s.app o.dst none [] s.nb) rfl (λq=>by rw[B]at q;cases q) (Eqv.refl _) (aQ _) (λ_ h=>h) (.inr ⟨rfl,rfl⟩) h
  obtain⟨F,I,h,u,U⟩:=zE h;have d:I.nb=s.nb:=u.nb;cases F
  ·simp only at h;split at h
   case h_2=>cases h
   rename_i hd;refine more ⟨o.dst,some (.tp []),[],[]⟩ tr (I.app o.dst (some (.tp [])) [] I.nb) rfl (λ_ s' J X q3 Z ι0 w0 ι a w A G K Q O=>?_) (u.put ⟨o.dst,some (.tp []),[],[]⟩) (wA d.symm) (λ_ h=>h) (.inr ⟨rfl,rfl⟩) h;rw[U s' J n ι0 ι w0 a w A];simp only[bj,az];exact O ι _ _ (λ_ _=>rfl) (A.skip hd)
  ·simp only at h;rcases BP V (by omega) h with⟨val,wr,rd,g,R,f⟩ | ⟨v,wr,rd,R,f⟩
   ·refine more ⟨o.dst,val,wr,rd⟩ (⟨i,rd,keys wr⟩::tr) (I.app o.dst val wr I.nb) rfl (λ_ s' J X q3 Z ι0 w0 ι a w A G K Q O=>?_) (u.put ⟨o.dst,val,wr,rd⟩) (wA d.symm) (λx hx=>gm _ hx) (.inl (by simp[keys])) R;rw[U s' J n ι0 ι w0 a w A];simp only[aG];refine f s' (xl λt ht=>by rw[J t ht,u.T]) (λb q=>by rw[X b q,u.H]) (by rw[q3,d]) (by rw[Z,u.ro]) ι0 w0 ι a w A (by simpa using G) K Q λL a' w' z1 z2=>O L a' w' (by simpa using z1) z2
   ·cases R
def zT {α:Type} {E:List Ent} (hE:∀x∈E,gg P x) {n nb0:Nat} {ops:List Oper} {masks:List Nat} {k:St->List TE->Option α} {kp:Nat->V->St->List TE->Option α} {z:α}:∀(l:List Oper) (i:Nat) (s:St) (tr:List TE),
  nb0+8*(i+l.length)<=s.nb->runD P E n nb0 ops masks kp i l s tr k=some z->
  (∃(recs:List Rec) (d:St) (trf:List TE),recs.length=l.length/\k d trf=some z/\Eqv d (recs.foldl St.put s)/\(∀x∈tr,x∈trf)/\
   (∀j r,recs[j]?=some r->(⟨i+j,r.rd,keys r.wr⟩:TE)∈trf\/(r.rd=[]/\r.wr=[]))/\
   ∀(j:Nat) (o:Oper) (r:Rec),l[j]?=some o->recs[j]?=some r->r.dst=o.dst/\ui P n nb0 ops (i+j) o r ((recs.take j).foldl St.put s))\/
  (∃(p:Nat) (op:Oper) (recs:List Rec) (d:St) (M:St) (trf:List TE) (v:V) (wr:List (Nat×Blk)) (u:Rec),recs.length=l.length/\l[p]?=some op/\recs[p]?=some u/\u.dst=op.dst/\u.wr=[]/\M=d.app none none wr d.nb/\kp (i+p) v M trf=some z/\Eqv d ((recs.take p).foldl St.put s)/\(∀x∈tr,x∈trf)/\
   zl P n nb0 ops (i+p) op v wr u.rd ((recs.take p).foldl St.put s)/\
   (∀j r,recs[j]?=some r->j≠p->(⟨i+j,r.rd,keys r.wr⟩:TE)∈trf\/(r.rd=[]/\r.wr=[]))/\
   ∀(j:Nat) (o:Oper) (r:Rec),l[j]?=some o->recs[j]?=some r->r.dst=o.dst/\((j<p\/(p<j/\(getN masks (i+j)).testBit (i+p)=false))->ui P n nb0 ops (i+j) o r ((recs.take j).foldl St.put s)))
 | [],i,s,tr,X,h=>.inl ⟨[],s,tr,rfl,h,Eqv.refl s,λ_ h=>h,λj r h=>by simp at h,λj o r h=>by simp at h⟩
 | o::l,i,s,tr,X,h=>by
  simp only [aN] at X;simp only [runD] at h;obtain ⟨Y,I,h,A,hw⟩:=zE h;have e:I.nb=s.nb:=A.nb;have more:∀(B:Rec) (m:List TE) (O:St),B.dst=o.dst->ui P n nb0 ops i o B s->Eqv O (s.put B)->s.nb<=O.nb->(∀x∈tr,x∈m)->((⟨i,B.rd,keys B.wr⟩:TE)∈m\/(B.rd=[]/\B.wr=[]))->
    runD P E n nb0 ops masks kp (i+1) l O m k=some z->
    (∃(recs:List Rec) (d:St) (trf:List TE),recs.length=(o::l).length/\k d trf=some z/\Eqv d (recs.foldl St.put s)/\(∀x∈tr,x∈trf)/\
   (∀j r,recs[j]?=some r->(⟨i+j,r.rd,keys r.wr⟩:TE)∈trf\/(r.rd=[]/\r.wr=[]))/\
   ∀(j:Nat) (f:Oper) (r:Rec),(o::l)[j]?=some f->recs[j]?=some r->r.dst=f.dst/\ui P n nb0 ops (i+j) f r ((recs.take j).foldl St.put s))\/
    (∃(p:Nat) (op:Oper) (recs:List Rec) (d:St) (M:St) (trf:List TE) (v:V) (wr:List (Nat×Blk)) (u:Rec),recs.length=(o::l).length/\(o::l)[p]?=some op/\recs[p]?=some u/\u.dst=op.dst/\u.wr=[]/\M=d.app none none wr d.nb/\kp (i+p) v M trf=some z/\Eqv d ((recs.take p).foldl St.put s)/\(∀x∈tr,x∈trf)/\
   zl P n nb0 ops (i+p) op v wr u.rd ((recs.take p).foldl St.put s)/\
   (∀j r,recs[j]?=some r->j≠p->(⟨i+j,r.rd,keys r.wr⟩:TE)∈trf\/(r.rd=[]/\r.wr=[]))/\
   ∀(j:Nat) (f:Oper) (r:Rec),(o::l)[j]?=some f->recs[j]?=some r->r.dst=f.dst/\((j<p\/(p<j/\(getN masks (i+j)).testBit (i+p)=false))->ui P n nb0 ops (i+j) f r ((recs.take j).foldl St.put s))):=by
   intro B m O hd hl J hnb2 R Z h;rcases zT hE l (i+1) O m (by omega) h with ⟨recs,d,trf,g1,N,g3,L,g5,g6⟩ | ⟨p,op,recs,d,M,trf,v,wr,u,g1,g0,gr,gd,gw,gs,N,g3,L,g7,g5,g6⟩
   ·refine .inl ⟨B::recs,d,trf,by simp [g1],N,g3.trans (Eqv.puts recs J),λx hx=>L x (R x hx),λj r c=>?_,λj f r q c=>?_⟩
    ·cases j with
     | zero=>simp only [mC,ar] at c;subst c;exact Z.imp (L _) id
     | succ j=>have:=g5 j r (by simpa using c);rwa [show i+1+j=i+(j+1) by omega] at this
    ·cases j with
     | zero=>
      simp only [mC,ar] at q c;subst q c;exact ⟨hd,hl⟩
     | succ j=>
      obtain ⟨W,F⟩:=g6 j f r (by simpa using q) (by simpa using c);rw [show i+1+j=i+(j+1) by omega] at F;exact ⟨W,F.eqv (by simpa using Eqv.puts (recs.take j) J)⟩
   ·rw [show i+1+p=i+(p+1) by omega] at N g7;refine .inr ⟨p+1,op,B::recs,d,M,trf,v,wr,u,by simp [g1],by simpa using g0,by simpa using gr,gd,gw,gs,N,g3.trans (by simpa using Eqv.puts (recs.take p) J),λx hx=>L x (R x hx),g7.eqv (by simpa using Eqv.puts (recs.take p) J),λj r c hjp=>?_,λj f r q c=>?_⟩
    ·cases j with
     | zero=>simp only [mC,ar] at c;subst c;exact Z.imp (L _) id
     | succ j=>have:=g5 j r (by simpa using c) (by omega);rwa [show i+1+j=i+(j+1) by omega] at this
    ·cases j with
     | zero=>
      simp only [mC,ar] at q c;subst q c;exact ⟨hd,λ_=>hl⟩
     | succ j=>
      obtain ⟨W,F⟩:=g6 j f r (by simpa using q) (by simpa using c);rw [show i+1+j=i+(j+1) by omega,show i+1+p=i+(p+1) by omega] at F;exact ⟨W,λhc=>(F (hc.imp (λh=>by omega) λh=>⟨by omega,h.2⟩)).eqv (by simpa using Eqv.puts (recs.take j) J)⟩
  cases Y
  ·simp only at h;split at h
   case h_2=>cases h
   rename_i hd;refine more ⟨o.dst,some (.tp []),[],[]⟩ tr (I.app o.dst (some (.tp [])) [] I.nb) rfl (λs' G U q3 q4 ι0 w0 ι a w D C K Q S=>?_) (A.put ⟨o.dst,some (.tp []),[],[]⟩) (wA e.symm) (λ_ h=>h) (.inr ⟨rfl,rfl⟩) h;rw [hw s' G n ι0 ι w0 a w D];simp only [bj,az];exact S ι _ _ (λ_ _=>rfl) (D.skip hd)
  ·simp only at h;rcases BP hE (by omega) h with ⟨val,wr,rd,g,hk,y⟩ | ⟨v,wr,rd,hk,y⟩
   ·refine more ⟨o.dst,val,wr,rd⟩ (⟨i,rd,keys wr⟩::tr) (I.app o.dst val wr I.nb) rfl (λs' G U q3 q4 ι0 w0 ι a w D C K Q S=>?_) (A.put ⟨o.dst,val,wr,rd⟩) (wA e.symm) (λx hx=>gm _ hx) (.inl (by simp [keys])) hk;rw [hw s' G n ι0 ι w0 a w D];simp only [aG];refine y s' (xl λt ht=>by rw [G t ht,A.T]) (λb hb=>by rw [U b hb,A.H]) (by rw [q3,e]) (by rw [q4,A.ro]) ι0 w0 ι a w D (by simpa using C) K Q λι' a' w' z1 z2=>S ι' a' w' (by simpa using z1) z2
   ·obtain ⟨recs,trf,g1,N,L,g5,g6⟩:=Jo hE l (i+1) _ tr (by simp only [St.app];omega) hk;have J:Eqv (I.app o.dst none [] I.nb) (s.put ⟨o.dst,none,[],rd⟩):=A.put ⟨o.dst,none,[],rd⟩;refine .inr ⟨0,o,⟨o.dst,none,[],rd⟩::recs,I,_,trf,v,wr,⟨o.dst,none,[],rd⟩,by simp [g1],rfl,rfl,rfl,rfl,rfl,N,A,L,λs' G U q3 q4 ι0 w0 ι a w D C K Q S=>?_,λj r c hjp=>?_,λj f r q c=>?_⟩
    ·simp only [ot,GU] at G U q3 q4;exact ⟨hw s' G n ι0 ι w0 a w D,y s' (xl λt ht=>by rw [G t ht,A.T]) (λb hb=>by rw [U b hb,A.H]) (by rw [q3,e]) (by rw [q4,A.ro]) ι0 w0 ι a w D (by simpa using C) K Q S⟩
    ·cases j with
     | zero=>exact absurd rfl hjp
     | succ j=>have:=g5 j r (by simpa using c);rwa [show i+1+j=i+(j+1) by omega] at this
    ·cases j with
     | zero=>
      simp only [mC,ar] at q c;subst q c;exact ⟨rfl,λh=>by omega⟩
     | succ j=>
      obtain ⟨W,F⟩:=g6 j f r (by simpa using q) (by simpa using c);rw [show i+1+j=i+(j+1) by omega] at F;refine ⟨W,λhc=>(F ?_).eqv (by simpa using Eqv.puts (recs.take j) J)⟩;rcases hc with hc | hc
      ·omega
      ·exact hc.2
def Down(ops:List Oper)(D:Nat->Bool):Prop:=∀j o e,ops[j]?=some o->D j=true->e∈o.after.toList->Region.binds .any e=true->D e.on=true
def Must(ops:List Oper)(i j:Nat):Prop:=∀D,Down ops D->D j=true->D i=true
def Dn(a:Array Bool):Nat->Bool:=λi=>a.getD i false
structure DrawFacts(P:Program)(n nb0:Nat)(ops:List Oper)(recs:List Rec)(s0:St)(live:Nat->Prop):Prop where
 len:recs.length=ops.length
 nb:s0.nb=nb0+8*ops.length
 loc:∀(j:Nat) (o:Oper) (r:Rec),ops[j]?=some o->recs[j]?=some r->(∀t,r.dst=some t->o.dst=some t)/\(live j->ui P n nb0 ops j o r (appD 0 recs (λm=>decide (m<j)) s0))
 down:∀(j:Nat) (o:Oper) (e:Edge),ops[j]?=some o->e∈o.after.toList->Region.binds .any e=true->e.on<j
 apart:∀(i j:Nat) (x y:Oper),i<j->ops[i]?=some x->ops[j]?=some y->Must ops i j\/x.apart ops.toArray y=true
 blk:∀(i j:Nat) (x y:Rec),i<j->recs[i]?=some x->recs[j]?=some y->Must ops i j\/((∀b∈keys x.wr,b∉y.rd/\b∉keys y.wr)/\∀b∈x.rd,b∉keys y.wr)
def ug{ops:List Oper}{a:Array Bool}{i:Nat}(hs:a.size=ops.length)(h:i∈Region.ready .any ops.toArray a):
  ∃o,ops[i]?=some o/\i<ops.length/\Dn a i=false/\∀e∈o.after.toList,Region.binds .any e=true->Dn a e.on=true:=by
 unfold Region.ready at h;simp only[nG,kB,aC,AA]at h;obtain⟨c,d,b⟩:=h;have f:ops[i]?=some ops[i]:=by simp[c]
 refine⟨ops[i],f,c,?_,λe g j=>?_⟩
 ·unfold Dn;have:i<a.size:=by omega
  simp only[qf,Va this,wY]at d ⊢;simpa using d
 ·simp only[List.getElem?_toArray,f,fi,wY]at b;have:=(Array.all_eq_true'.1 b) e (by simpa using g);simp only[j,ca,oU]at this;exact this
def BA{ops:List Oper}{a:Array Bool}{i:Nat}{o:Oper}(hs:a.size=ops.length)(c:ops[i]?=some o)(d:Dn a i=false)
  (hd:∀e∈o.after.toList,Region.binds .any e=true->Dn a e.on=true):i∈Region.ready .any ops.toArray a:=by
 have hi:i<ops.length:=by
  rcases aF i ops.length with b | b
  ·exact b
  ·rw[gU b]at c;cases c
 unfold Region.ready;simp only[nG,kB,aC,AA];refine⟨hi,?_,?_⟩
 ·have:i<a.size:=by omega
  unfold Dn at d;simp only[qf,Va this,wY]at d ⊢;simp[d]
 ·simp only[List.getElem?_toArray,c,fi,wY];refine Array.all_eq_true'.2 λe f=>?_;cases g:Region.binds .any e with
  | false=>rfl
  | true=>
   have:=hd e (by simpa using f) g;unfold Dn at this;simpa using this
def y4{a:Array Bool}{i:Nat}(h:i<a.size)(j:Nat):Dn (a.setIfInBounds i true) j=if j=i then true else Dn a j:=by
 unfold Dn;simp only[qf];rw[SE];by_cases b:i=j
 ·subst b;simp[h]
 ·simp[b,show¬j=i fromλe=>b e.symm]
def Down.add{ops:List Oper}{D:Nat->Bool}(h:Down ops D){i:Nat}{o:Oper}(Q:ops[i]?=some o)(hd:∀e∈o.after.toList,Region.binds .any e=true->D e.on=true):
  Down ops λj=>if j=i then true else D j:=by
 intro j O e E G F J;show(if e.on=i then true else D e.on)=true;by_cases C:j=i
 ·subst C;rw[Q]at E;cases E;have:=hd e F J;split
  ·rfl
  ·exact this
 ·simp only[C,az]at G;have:=h j O e E G F J;split
  ·rfl
  ·exact this
def Must.in{ops:List Oper}{D:Nat->Bool}(h:Down ops D){i k:Nat}{o:Oper}(F:ops[i]?=some o)(hd:∀e∈o.after.toList,Region.binds .any e=true->D e.on=true)
  (E:Must ops k i) (C:k≠i):D k=true:=by
 have:=E _ (h.add F hd) (by simp);simpa[C]using this
section
variable {n nb0:Nat} {ops:List Oper} {recs:List Rec} {s0:St} {live:Nat->Prop} (F:DrawFacts P n nb0 ops recs s0 live)
include F
def yh{i:Nat}{o:Oper}(h:ops[i]?=some o):∃r,recs[i]?=some r:=by
 have hi:i<ops.length:=by
  rcases aF i ops.length with h' | h'
  ·exact h'
  ·rw[gU h']at h;cases h
 exact⟨recs[i]'(by rw[F.len];exact hi),by simp[F.len,hi]⟩
def wo{i:Nat}{r:Rec}(h:recs[i]?=some r):∃o,ops[i]?=some o:=by
 have hi:i<recs.length:=by
  rcases aF i recs.length with h' | h'
  ·exact h'
  ·rw[gU h']at h;cases h
 exact⟨ops[i]'(by rw[<-F.len];exact hi),by simp[F.len▸hi]⟩
def Bq{D:Nat->Bool}(u:Down ops D){i:Nat}{o:Oper}(n:ops[i]?=some o)(v:D i=false)(hd:∀e∈o.after.toList,Region.binds .any e=true->D e.on=true)
  {t:Nat} (q:t∈o.looksAt ops.toArray):look (appD 0 recs D s0).T t=look (appD 0 recs (λm=>decide (m<i)) s0).T t:=by
 rw[zu,zu];refine sP recs 0 _ _ t _ λj r s w=>?_;simp only[cU];obtain⟨p,b⟩:=wo F s;have a:=((F.loc j p r b s).1 t w).symm;rcases Ew j i with d | h | f
 ·have l:D j=true:=by
   rcases F.apart j i p o d b n with k | c
   ·exact k.in u n hd (by omega)
   ·exact absurd q ((EU c).1 t a.symm)
  rw[l];simp[d]
 ·subst h;simp[v]
 ·have l:D j=false:=by
   rcases F.apart i j o p f n b with k | c
   ·cases g:D j with
    | false=>rfl
    | true=>have:=k D u g;rw[v]at this;cases this
   ·exact absurd q ((EU c).2.2 t a.symm)
  rw[l];simp;omega
def zN{D:Nat->Bool}(q:Down ops D){i:Nat}{o:Oper}{r:Rec}(v:ops[i]?=some o)(s:recs[i]?=some r)(u:D i=false)
  (hd:∀e∈o.after.toList,Region.binds .any e=true->D e.on=true) {b:Nat} (t:b∈r.rd):look (appD 0 recs D s0).H b=look (appD 0 recs (λm=>decide (m<i)) s0).H b:=by
 rw[wI,wI];refine pt recs 0 _ _ b _ λj l n p=>?_;simp only[cU];rcases Ew j i with c | g | d
 ·have k:D j=true:=by
   rcases F.blk j i l r c n s with h | a
   ·exact h.in q v hd (by omega)
   ·exact absurd t (a.1 b p).1
  rw[k];simp[c]
 ·subst g;simp[u]
 ·have k:D j=false:=by
   rcases F.blk i j r l d s n with h | a
   ·cases f:D j with
    | false=>rfl
    | true=>have:=h D q f;rw[u]at this;cases this
   ·exact absurd p (a.2 b t)
  rw[k];simp;omega
def BI{D:Nat->Bool}(C:Down ops D){i:Nat}{o:Oper}{r:Rec}(z:ops[i]?=some o)(f:recs[i]?=some r)(A:D i=false):
  Eqv ((appD 0 recs D s0).put r) (appD 0 recs (λj=>if j=i then true else D j) s0):=by
 have p:=(F.loc i o r z f).1;refine⟨λt=>?_,λb=>?_,by rw[Wa,lK,lK],by show(appD 0 recs D s0).lo=_;rw[wM,wM],by show(appD 0 recs D s0).ro=_;rw[ji,ji],by show(appD 0 recs D s0).rb=_;rw[yd,yd]⟩
 ·rw[PU,zu,zu];by_cases g:r.dst=some t
  ·rw[ae g];symm;refine F5 recs 0 i _ t _ r f (by simp) g λk n x c y=>?_;simp only[cU,show¬k=i by omega,az];obtain⟨ok,m⟩:=wo F c;have q:=(F.loc k ok n m c).1;rcases F.apart i k o ok x z m with s | d
   ·cases e:D k with
    | false=>rfl
    | true=>have:=s D C e;rw[A]at this;cases this
   ·exact absurd (q t y) ((EU d).2.1 t (p t g))
  ·rw[ab g];refine sP recs 0 _ _ t _ λj n h w=>?_;simp only[cU];by_cases a:j=i
   ·subst a;rw[f]at h;cases h;exact absurd w g
   ·simp[a]
 ·rw[OC,wI,wI];by_cases l:b∈keys r.wr
  ·obtain⟨v,B⟩:=rF l;rw[B,Option.some_or];symm;rw[<-B];refine GB recs 0 i _ b _ r f (by simp) l λk n x c u=>?_;simp only[cU,show¬k=i by omega,az];rcases F.blk i k r n x f c with s | d
   ·cases e:D k with
    | false=>rfl
    | true=>have:=s D C e;rw[A]at this;cases this
   ·exact absurd u (d.1 b l).2
  ·rw[qD l,FA];refine pt recs 0 _ _ b _ λj n h u=>?_;simp only[cU];by_cases a:j=i
   ·subst a;rw[f]at h;cases h;exact absurd u l
   ·simp[a]
def Dw {kk:Nat} (B:∀j,kk<=j->j<ops.length->live j) {ι0:Inj} {w0:Base} {Q:Exit->Act->World->Prop} (S:∀ι a w,Inv n ι0 w0 ι (recs.foldl St.put s0) a w->Q .normal a w):
  ∀(fuel:Nat) (c:Array Bool) (ι:Inj) (a:Act) (w:World),c.size=ops.length->(∀j,j<kk->Dn c j=true)->Down ops (Dn c)->Inv n ι0 w0 ι (appD 0 recs (Dn c) s0) a w->
   (∀i,i<ops.length->Dn c i=false->∀b,nb0+8*i<=b->b<nb0+8*i+8->ι b=none)->((List.range ops.length).filter λi=>!Dn c i).length<=fuel->
   wpAny P .any ops.toArray Q fuel c a w:=by
 have z:∀(c:Array Bool) (ι:Inj) (a:Act) (w:World),c.size=ops.length->Inv n ι0 w0 ι (appD 0 recs (Dn c) s0) a w->Region.ready .any ops.toArray c=[]->Q .normal a w:=by
  intro c ι a w hs s m;have C:∀j,j<ops.length->Dn c j=true:=by
   intro j
   induction j using Nat.strongRecOn with
   | _ j ih=>
    intro q;cases J:Dn c j with
    | true=>rfl
    | false=>
     have f:ops[j]?=some ops[j]:=by simp [q]
     have N:=BA hs f J λe M G=>ih e.on (F.down j _ e f M G) (by have:=F.down j _ e f M G;omega);rw [m] at N;cases N
  rw [An recs 0 (Dn c) s0 λj q=>by simpa using C j (by rw [<-F.len];exact q)] at s;exact S ι a w s
 intro fuel
 induction fuel with
 | zero=>
  intro c ι a w hs u D s x hc;have m:Region.ready .any ops.toArray c=[]:=by
   rw [List.eq_nil_iff_forall_not_mem];intro i hi;obtain ⟨o,f,g,p,_⟩:=ug hs hi;have:i∈(List.range ops.length).filter λi=>!Dn c i:=by simp [g,p]
   have:=EA this;omega
  exact ⟨m,z c ι a w hs s m⟩
 | succ fuel ih=>
  intro c ι a w hs u D s x hc;refine ⟨z c ι a w hs s,λi hi=>?_⟩;obtain ⟨o,f,g,p,hd⟩:=ug hs hi;obtain ⟨r,m⟩:=yh F f;have A:=(F.loc i o r f m).2 (B i (by rcases aF i kk with h | h;(· have:=u i h;rw [p] at this;cases this);exact h) g);have d:Dn (c.setIfInBounds i true)=λj=>if j=i then true else Dn c j:=by
   funext j;exact y4 (by omega) j
  have E:=A (appD 0 recs (Dn c) s0) (λt O=>Bq F D f p hd O) (λb G=>zN F D f m p hd G) (by rw [lK,lK]) (by rw [ji,ji]) ι0 w0 ι a w s (x i g p)
   (wpAny P .any ops.toArray Q fuel (c.setIfInBounds i true)) Q λH U w' T R=>by
    refine ih _ H U w' (by simpa using hs) (λj q=>by rw [d];simp only;split;(· rfl);exact u j q) (by rw [d];exact D.add f hd) (by rw [d];exact R.eqv (BI F D f m p)) (λj q k b K I=>?_) ?_
    ·rw [d] at k;by_cases l:j=i
     ·simp [l] at k
     ·simp only [l,az] at k;rw [T b (by omega)];exact x j q k b K I
    ·have:((List.range ops.length).filter λj=>!Dn (c.setIfInBounds i true) j).length<((List.range ops.length).filter λj=>!Dn c j).length:=by
      rw [d];have y:((List.range ops.length).filter λj=>!(if j=i then true else Dn c j))=((List.range ops.length).filter λj=>!Dn c j).filter λj=>decide (j≠i):=by
       rw [GF];congr 1;funext j;by_cases l:j=i<;>simp [l]
      rw [y];refine AP.2 ⟨i,by simp [g,p],by simp⟩
     omega
  unfold wpOp;have L:ops.toArray[i]?=some o:=by simpa using f
  rw [L];simp only;split
  ·rename_i v;rw [ae v] at E;exact .inl E
  ·rename_i v;rw [ab v] at E;exact E
def NR {lim kk:Nat} (B:lim<ops.length) (g:∀j,kk<=j->j<lim->live j/\Must ops j lim) (u:∀j,lim<j->j<ops.length->Must ops lim j) {ι0:Inj} {w0:Base} {Q:Exit->Act->World->Prop}
  (W:∀(fuel:Nat) (c:Array Bool) (ι:Inj) (a:Act) (w:World),c.size=ops.length->(∀j,j<lim->Dn c j=true)->Dn c lim=false->Down ops (Dn c)->Down ops (Dn (c.setIfInBounds lim true))->
   Inv n ι0 w0 ι (appD 0 recs (Dn c) s0) a w->((List.range ops.length).filter λi=>!Dn c i).length<=fuel+1->wpOp P ops.toArray Q lim (wpAny P .any ops.toArray Q fuel (c.setIfInBounds lim true)) a w):
  ∀(fuel:Nat) (c:Array Bool) (ι:Inj) (a:Act) (w:World),c.size=ops.length->(∀j,j<kk->Dn c j=true)->Down ops (Dn c)->Dn c lim=false->Inv n ι0 w0 ι (appD 0 recs (Dn c) s0) a w->
   (∀i,i<ops.length->Dn c i=false->∀b,nb0+8*i<=b->b<nb0+8*i+8->ι b=none)->((List.range ops.length).filter λi=>!Dn c i).length<=fuel->
   wpAny P .any ops.toArray Q fuel c a w:=by
 have M:∀(c:Array Bool),c.size=ops.length->Dn c lim=false->Region.ready .any ops.toArray c=[]->False:=by
  intro c hs hp s;have E:∀j,j<ops.length->Dn c j=true:=by
   intro j
   induction j using Nat.strongRecOn with
   | _ j ih=>
    intro q;cases L:Dn c j with
    | true=>rfl
    | false=>
     have f:ops[j]?=some ops[j]:=by simp [q]
     have T:=BA hs f L λe S H=>ih e.on (F.down j _ e f S H) (by have:=F.down j _ e f S H;omega);rw [s] at T;cases T
  rw [E lim B] at hp;cases hp
 intro fuel
 induction fuel with
 | zero=>
  intro c ι a w hs k p hp K z hc;have:lim∈(List.range ops.length).filter λi=>!Dn c i:=by simp [B,hp]
  have:=EA this;omega
 | succ fuel ih=>
  intro c ι a w hs k p hp K z hc;refine ⟨λs=>(M c hs hp s).elim,λi hi=>?_⟩;obtain ⟨o,f,x,v,hd⟩:=ug hs hi;obtain ⟨r,s⟩:=yh F f;have d:Dn (c.setIfInBounds i true)=λj=>if j=i then true else Dn c j:=by
   funext j;exact y4 (by omega) j
  by_cases A:i=lim
  ·subst A;refine W fuel c ι a w hs (λj q=>?_) v p (by rw [d];exact p.add f hd) K hc;rcases aF j kk with h | h
   ·exact k j h
   ·exact (g j h q).2.in p f hd (by omega)
  have R:ops.toArray[i]?=some o:=by simpa using f
  unfold wpOp;rw [R];simp only;have hlt':i<lim:=by
   rcases aF i lim with h | h
   ·exact h
   ·have:=(u i (by omega) x).in p f hd (λe=>A e.symm);rw [hp] at this;cases this
  have O:kk<=i:=by
   rcases aF i kk with h | h
   ·have:=k i h;rw [v] at this;cases this
   ·exact h
  have D:=(F.loc i o r f s).2 (g i O hlt').1
  have G:=D (appD 0 recs (Dn c) s0) (λt U=>Bq F p f v hd U) (λb H=>zN F p f s v hd H) (by rw [lK,lK]) (by rw [ji,ji]) ι0 w0 ι a w K (z i x v)
   (wpAny P .any ops.toArray Q fuel (c.setIfInBounds i true)) Q λI Y w' X V=>by
    refine ih _ I Y w' (by simpa using hs) (λj q=>by rw [d];simp only;split;(· rfl);exact k j q) (by rw [d];exact p.add f hd) (by rw [d];simp only [show ¬lim=i by omega,az];exact hp) (by rw [d];exact V.eqv (BI F p f s v)) (λj q l b N J=>?_) ?_
    ·rw [d] at l;by_cases m:j=i
     ·simp [m] at l
     ·simp only [m,az] at l;rw [X b (by omega)];exact z j q l b N J
    ·have:((List.range ops.length).filter λj=>!Dn (c.setIfInBounds i true) j).length<((List.range ops.length).filter λj=>!Dn c j).length:=by
      rw [d];have C:((List.range ops.length).filter λj=>!(if j=i then true else Dn c j))=((List.range ops.length).filter λj=>!Dn c j).filter λj=>decide (j≠i):=by
       rw [GF];congr 1;funext j;by_cases m:j=i<;>simp [m]
      rw [C];refine AP.2 ⟨i,by simp [x,v],by simp⟩
     omega
  split
  ·rename_i y;rw [ae y] at G;exact .inl G
  ·rename_i y;rw [ab y] at G;exact G
def Oa {lim:Nat} {ι0:Inj} {w0:Base} {Q:Exit->Act->World->Prop} {Y:Oper} {pr:Rec} {v:V} {wr:List (Nat×Blk)} (g:ops[lim]?=some Y) (I:recs[lim]?=some pr)
  (W:zl P n nb0 ops lim Y v wr pr.rd (appD 0 recs (λm=>decide (m<lim)) s0))
  (A:∀j,j<ops.length->j≠lim->live j\/Must ops lim j)
  (hQ:∀D,Down ops D->(∀e∈Y.after.toList,Region.binds .any e=true->D e.on=true)->D lim=false->∀ι x a w,VR ι v x->Inv n ι0 w0 ι ((appD 0 recs D s0).app none none wr s0.nb) a w->Q (.panic [{ v:=x,recovered:=false }]) a w):
  ∀(fuel:Nat) (c:Array Bool) (ι:Inj) (a:Act) (w:World),c.size=ops.length->Down ops (Dn c)->Dn c lim=false->Inv n ι0 w0 ι (appD 0 recs (Dn c) s0) a w->
   (∀i,i<ops.length->Dn c i=false->∀b,nb0+8*i<=b->b<nb0+8*i+8->ι b=none)->((List.range ops.length).filter λi=>!Dn c i).length<=fuel->
   wpAny P .any ops.toArray Q fuel c a w:=by
 have E:lim<ops.length:=by
  rcases aF lim ops.length with h' | h'
  ·exact h'
  ·rw [gU h'] at g;cases g
 have U:∀(c:Array Bool),c.size=ops.length->Dn c lim=false->Region.ready .any ops.toArray c=[]->False:=by
  intro c hs hp h;have J:∀j,j<ops.length->Dn c j=true:=by
   intro j
   induction j using Nat.strongRecOn with
   | _ j ih=>
    intro R;cases T:Dn c j with
    | true=>rfl
    | false=>
     have f:ops[j]?=some ops[j]:=by simp [R]
     have K:=BA hs f T λe he C=>ih e.on (F.down j _ e f he C) (by have:=F.down j _ e f he C;omega);rw [h] at K;cases K
  rw [J lim E] at hp;cases hp
 intro fuel
 induction fuel with
 | zero=>
  intro c ι a w hs u hp S s hc;have:lim∈(List.range ops.length).filter λi=>!Dn c i:=by simp [E,hp]
  have:=EA this;omega
 | succ fuel ih=>
  intro c ι a w hs u hp S s hc;refine ⟨λh=>(U c hs hp h).elim,λi hi=>?_⟩;obtain ⟨o,f,p,l,hd⟩:=ug hs hi;obtain ⟨r,h⟩:=yh F f;have hoa:ops.toArray[i]?=some o:=by simpa using f
  unfold wpOp;rw [hoa];simp only;by_cases z:i=lim
  case neg=>
   rcases A i p z with X | K
   case inr=>
    have:=K.in u f hd (λe=>z e.symm);rw [hp] at this;cases this
   have H:=(F.loc i o r f h).2 X;have d:Dn (c.setIfInBounds i true)=λj=>if j=i then true else Dn c j:=by
    funext j;exact y4 (by omega) j
   have L:=H (appD 0 recs (Dn c) s0) (λt N=>Bq F u f l hd N) (λb C=>zN F u f h l hd C) (by rw [lK,lK]) (by rw [ji,ji]) ι0 w0 ι a w S (s i p l)
    (wpAny P .any ops.toArray Q fuel (c.setIfInBounds i true)) Q λy a' w' g1 M=>by
     refine ih _ y a' w' (by simpa using hs) (by rw [d];exact u.add f hd) (by rw [d];simp only [show ¬lim=i by omega,az];exact hp) (by rw [d];exact M.eqv (BI F u f h l)) (λj R k b Z O=>?_) ?_
     ·rw [d] at k;by_cases q:j=i
      ·simp [q] at k
      ·simp only [q,az] at k;rw [g1 b (by omega)];exact s j R k b Z O
     ·have:((List.range ops.length).filter λj=>!Dn (c.setIfInBounds i true) j).length<((List.range ops.length).filter λj=>!Dn c j).length:=by
       rw [d];have G:((List.range ops.length).filter λj=>!(if j=i then true else Dn c j))=((List.range ops.length).filter λj=>!Dn c j).filter λj=>decide (j≠i):=by
        rw [GF];congr 1;funext j;by_cases q:j=i<;>simp [q]
       rw [G];refine AP.2 ⟨i,by simp [p,l],by simp⟩
      omega
   split
   ·rename_i B;rw [ae B] at L;exact .inl L
   ·rename_i B;rw [ab B] at L;exact L
  case pos=>
   subst z;rw [g] at f;cases f;rw [I] at h;cases h
   obtain ⟨q1,q2⟩:=W (appD 0 recs (Dn c) s0) (λt N=>Bq F u g l hd N) (λb C=>zN F u g I l hd C) (by rw [lK,lK]) (by rw [ji,ji]) ι0 w0 ι a w S (s i p l)
    (wpAny P .any ops.toArray Q fuel (c.setIfInBounds i true)) Q λy x w' g1 M=>hQ _ u hd l y x a w' g1 (by rw [lK] at M;exact M)
   rw [ae q1];exact .inl q2
end
def DN:∀{l:List Nat} {j:Nat},l.length<=j->getN l j=0
 | [],_,_=>rfl
 | _::_,0,h=>by simp at h
 | _::l,j+1,h=>DN (l:=l) (by simpa using h)
def rZ:∀{l m:List Nat} {j:Nat},j<l.length->getN (l++m) j=getN l j
 | [],_,_,h=>by simp at h
 | _::_,_,0,_=>rfl
 | _::l,m,j+1,h=>rZ (l:=l) (m:=m) (by simpa using h)
def rP:∀(l:List Nat) (x:Nat),getN (l++[x]) l.length=x
 | [],_=>rfl
 | _::l,x=>rP l x
def sH(b:List Nat):∀(l:List Edge) (s i:Nat),(Dv b l s).testBit i=true->s.testBit i=true\/∃e∈l,Region.binds .any e=true/\(e.on=i\/(getN b e.on).testBit i=true)
 | [],s,i,h=>.inl h
 | e::l,s,i,h=>by
  simp only[Dv]at h;split at h
  ·rename_i g;rcases sH b l _ i h with a | ⟨d,c,f⟩
   ·simp only[Nat.testBit_or,iC]at a;rcases a with(a | a) | a
    ·exact .inl a
    ·refine .inr ⟨e,by simp,g,.inl ?_⟩;rw[Nat.testBit_two_pow]at a;simpa using a
    ·exact .inr ⟨e,by simp,g,.inr a⟩
   ·exact .inr ⟨d,gm _ c,f⟩
  ·rcases sH b l _ i h with a | ⟨d,c,f⟩
   ·exact .inl a
   ·exact .inr ⟨d,gm _ c,f⟩
def pP(ops:List Oper):∀(r:List Oper) (a:List Nat),(∀j,r[j]?=ops[a.length+j]?)->(∀j i,(getN a j).testBit i=true->Must ops i j)->
  ∀j i,(getN (kX r a) j).testBit i=true->Must ops i j
 | [],a,_,h=>h
 | o::r,a,n,h=>by
  simp only[kX];refine pP ops r _ (λj=>by have:=n (j+1);simp only[Gj]at this;rw[this];simp;congr 1;omega) λj i b=>?_;rcases Ew j a.length with k | g | p
  ·rw[rZ k]at b;exact h j i b
  ·subst g;rw[rP]at b;have s:ops[a.length]?=some o:=by have:=n 0;simpa using this.symm
   rcases sH a _ _ _ b with c | ⟨e,q,d,c⟩
   ·simp at c
   ·intro D l f;have m:=l a.length o e s f q d;rcases c with rfl | c
    ·exact m
    ·exact h e.on i c D l m
  ·rw[DN (by simp;omega)]at b;simp at b
def jE:∀(l:List Oper) (i:Nat),qi i l=true->∀(j:Nat) (o:Oper) (e:Edge),l[j]?=some o->e∈o.after.toList->Region.binds .any e=true->e.on<i+j
 | [],_,_,_,_,_,h,_,_=>by simp at h
 | o::l,i,h,j,d,e,a,b,c=>by
  simp only[qi,aC,cE]at h;cases j with
  | zero=>
   simp only[mC,ar]at a;subst a;have:=h.1 e b;simp only[c,ca,oU]at this;exact aH this
  | succ j=>have:=jE l (i+1) h.2 j d e (by simpa using a) b c;omega
def sc{ops:Array Oper}{o:Oper}{a:Nat}:∀(l:List Oper) (i:Nat),tg ops o a i l=true->∀(j:Nat) (p:Oper),l[j]?=some p->a.testBit (i+j)=true\/p.apart ops o=true
 | [],_,_,_,_,h=>by simp at h
 | q::l,i,h,j,p,b=>by
  simp only[tg,aC,iC]at h;cases j with
  | zero=>simp only[mC,ar]at b;subst b;exact h.1
  | succ j=>have:=sc l (i+1) h.2 j p (by simpa using b);rwa[show i+1+j=i+(j+1)by omega]at this
def mX{ops:Array Oper}{masks:List Nat}:∀(l a:List Oper),sV ops masks a.length a l=true->∀(i j:Nat) (x y:Oper),i<a.length+j->(a++l)[i]?=some x->l[j]?=some y->
  (getN masks (a.length+j)).testBit i=true\/x.apart ops y=true
 | [],_,_,_,_,_,_,_,_,h=>by simp at h
 | o::l,a,h,i,j,x,y,hi,hx,hy=>by
  simp only[sV,aC]at h;cases j with
  | zero=>
   simp only[mC,ar]at hy;subst hy;have:=sc a 0 h.1 i x (by rw[nF (by simpa using hi)]at hx;exact hx);simpa using this
  | succ j=>
   have b:=h.2;rw[show a.length+1=(a++[o]).length by simp]at b;have:=mX l (a++[o]) b i j x y (by simp;omega) (by simpa using hx) (by simpa using hy);rwa[show(a++[o]).length+j=a.length+(j+1)by simp;omega]at this
def qy{masks:List Nat}:∀{tr:List TE},pw masks tr=true->∀x∈tr,∀y∈tr,x.i<y.i->yj masks x y=true\/yj masks y x=true
 | [],_,x,hx,_,_,_=>by cases hx
 | z::l,h,x,hx,y,hy,c=>by
  simp only[pw,aC,cE]at h;rcases de.1 hx with b | b
  ·subst b;rcases de.1 hy with a | a
   ·subst a;omega
   ·exact .inl (h.1 y a)
  ·rcases de.1 hy with a | a
   ·subst a;exact .inr (h.1 x b)
   ·exact qy h.2 x b y a c
def xx{x y:TE}(h:SU x y=false):(∀b∈x.ws,b∉y.rd/\b∉y.ws)/\∀b∈x.rd,b∉y.ws:=by
 simp only[SU,oP,rU,iC,not_or,List.contains_iff_mem]at h;exact⟨λb a=>h.1 b a,λb a=>h.2 b a⟩
def CN{masks:List Nat}{x y:TE}(h:yj masks x y=true\/yj masks y x=true)(e:x.i<y.i):
  (getN masks y.i).testBit x.i=true\/((∀b∈x.ws,b∉y.rd/\b∉y.ws)/\∀b∈x.rd,b∉y.ws):=by
 have f:Nat.blt x.i y.i=true:=dT e;have g:Nat.blt y.i x.i=false:=by
  cases k:Nat.blt y.i x.i with
  | false=>rfl
  | true=>have:y.i<x.i:=aH k;omega
 rcases h with h | h
 ·simp only[yj,f,aj,iC,kL]at h;exact h.imp id xx
 ·simp only[yj,g,af,iC,kL]at h;refine h.imp id λh=>?_;obtain⟨a,b⟩:=xx h;exact⟨λc hc=>⟨λj=>b c j hc,λd=>(a c d).2 hc⟩,λc hc d=>(a c d).1 hc⟩
def uo:∀(ops:List Oper) {T:List (Nat×Option V)} (t:Nat) (v:V),look (If ops T) t=some (some v)->(∀o∈ops,o.dst≠some t)/\look T t=some (some v)
 | [],T,t,v,h=>⟨by simp,h⟩
 | o::l,T,t,v,h=>by
  simp only[If]at h;split at h
  ·rename_i d hd;rw[aR]at h;split at h
   ·cases h
   ·rename_i c;obtain⟨a,b⟩:=uo l t v h;refine⟨λx hx=>?_,b⟩;rcases de.1 hx with rfl | hx
    ·rw[hd];intro e;cases e;exact c rfl
    ·exact a x hx
  ·rename_i hd;obtain⟨a,b⟩:=uo l t v h;refine⟨λx hx=>?_,b⟩;rcases de.1 hx with rfl | hx
   ·rw[hd];intro e;cases e
   ·exact a x hx
def I0{α:Type}{E:List Ent}(hE:∀x∈E,gg P x){n:Nat}{ops:List Oper}{s:St}{k:Ex->St->Option α}{z:α}(h:Ft P E n ops s k=some z)(id:Nat):
  SemC P n (.region id ops.toArray true) s λex s'=>k ex s'=some z:=by
 intro ι0 w0 ι a w hI;unfold Ft at h;split at h
 case h_2=>cases h
 rename_i hok;simp only[aC,Gn]at hok;obtain⟨⟨hb1,hb2,_⟩,R⟩:=hok;have g:=pP ops ops [] (by simp) (λj i u=>by simp[getN]at u);have hI1:Inv n ι0 w0 ι { s with nb:=s.nb+8*ops.length } a { w with drawn:=w.drawn+1 }:=by
  have d:=hI.drawn (w.drawn+1);exact⟨d.size,d.defers,d.tmps,⟨d.mem.inj,λb r u=>by have:=d.mem.low b r u;simp only;omega,d.mem.dom,d.mem.blk⟩,d.ext,d.new,d.fr,d.low,d.fz,d.gl⟩
 have K:∀i,Dn (Array.replicate ops.toArray.size false) i=false:=by
  intro i;unfold Dn;simp only[qf,Vd];split<;>rfl
 have hno:∀(l:List Rec) (i:Nat) (D:Nat->Bool) (s:St),(∀j,D j=false)->appD i l D s=s:=by
  intro l
  induction l with
  | nil=>intros;rfl
  | cons r l ih=>intro i D s hD;simp only[appD,hD i,bj,az];exact ih _ D s hD
 have C:∀(trf:List TE) (x y:Rec) (i j:Nat),pw (kX ops []) (trf.filter λx=>!(x.rd.isEmpty&&x.ws.isEmpty))=true->i<j->((⟨0+i,x.rd,keys x.wr⟩:TE)∈trf\/(x.rd=[]/\x.wr=[]))->((⟨0+j,y.rd,keys y.wr⟩:TE)∈trf\/(y.rd=[]/\y.wr=[]))->
   Must ops i j\/((∀b∈keys x.wr,b∉y.rd/\b∉keys y.wr)/\∀b∈x.rd,b∉keys y.wr):=by
  intro trf x y i j I B hx hy;rcases hx with hxm | ⟨hx1,hx2⟩
  ·rcases hy with hym | ⟨hy1,hy2⟩
   ·simp only[cU]at hxm hym;by_cases Z:(x.rd=[]/\x.wr=[])
    ·exact .inr (by simp[Z.1,Z.2,keys])
    ·by_cases Y:(y.rd=[]/\y.wr=[])
     ·exact .inr (by simp[Y.1,Y.2,keys])
     ·have m1:(⟨i,x.rd,keys x.wr⟩:TE)∈trf.filter λx=>!(x.rd.isEmpty&&x.ws.isEmpty):=by
       refine nG.2 ⟨hxm,?_⟩;simp only[keys,kL,Dj,zQ];rcases G8 (x.rd=[])with h | h
       ·exact .inr (by simpa usingλhw=>Z ⟨h,hw⟩)
       ·exact .inl h
      have m2:(⟨j,y.rd,keys y.wr⟩:TE)∈trf.filter λx=>!(x.rd.isEmpty&&x.ws.isEmpty):=by
       refine nG.2 ⟨hym,?_⟩;simp only[keys,kL,Dj,zQ];rcases G8 (y.rd=[])with h | h
       ·exact .inr (by simpa usingλhw=>Y ⟨h,hw⟩)
       ·exact .inl h
      have:=CN (qy I _ m1 _ m2 B) B;exact this.imp (g j i) λh=>h
   ·exact .inr (by simp[hy1,hy2,keys])
  ·exact .inr (by simp[hx1,hx2,keys])
 rcases zT hE ops 0 _ [] (by simp) h with⟨recs,Q,trf,g1,S,O,_,g5,g6⟩ | ⟨p,po,recs,Q,sp,trf,v,wr,rp,g1,g0,gr,gd,gw,rfl,S,O,_,g7,g5,g6⟩
 ·split at S
  case h_2=>cases S
  rename_i I;have F:DrawFacts P n s.nb ops recs { s with nb:=s.nb+8*ops.length } (λ_=>True):=by
   refine⟨g1,rfl,λj o r N W=>?_,λj o e N he u=>?_,λi j x y B hx hy=>?_,λi j x y B hx hy=>?_⟩
   ·obtain⟨p1,p2⟩:=g6 j o r N W;simp only[cU]at p2;have e:=qx recs 0 j { s with nb:=s.nb+8*ops.length };simp only[cU]at e;exact⟨λt U=>p1▸U,λ_=>p2.eqv e⟩
   ·have:=jE ops 0 hb1 j o e N he u;omega
   ·have:=mX (masks:=kX ops []) ops [] hb2 i j x y (by simpa using B) (by simpa using hx) hy;simp only[fR,cU]at this;exact this.imp (g j i) λh=>h
   ·exact C trf x y i j I B (g5 i x hx) (g5 j y hy)
  refine wp_region_any R (Dw (kk:=0) F (λ_ _ _=>trivial) (λG a' w' f=>⟨.normal,Q,G,rfl,f.eqv O.symm,S⟩) _ _ ι a _ (by simp) (λj V=>by omega) (λj o e _ J=>by rw[K j]at J;cases J) (by rw[hno recs 0 _ _ K];exact hI1) (λi _ _ b u _=>?_) ?_)
  ·exact hI.fresh b (by omega)
  ·have:=Ag (λi=>!Dn (Array.replicate ops.toArray.size false) i) (List.range ops.length);simpa using this
 ·split at S
  case h_2=>cases S
  rename_i hpk;simp only[aC,UV]at hpk;obtain⟨hw,I⟩:=hpk;simp only[cU]at S g7 hw;have B:p<ops.length:=by
   rcases aF p ops.length with h' | h'
   ·exact h'
   ·rw[gU h']at g0;cases g0
  have A:∀i r,recs[i]?=some r->i≠p->(i<p/\Must ops i p)\/r.wr=[]:=by
   intro i r W M;rcases g5 i r W M with hx | hx
   ·have:=(cE.1 hw) _ hx;simp only[cU,iC,aC]at this;rcases this with h | h
    ·right;simpa[keys]using h
    ·exact .inl ⟨aH h.1,g p i h.2⟩
   ·exact .inr hx.2
  have g5':∀(j:Nat) (r:Rec),recs[j]?=some r->j≠p->(⟨0+j,r.rd,keys r.wr⟩:TE)∈trf\/(r.rd=[]/\r.wr=[]):=g5;have F:DrawFacts P n s.nb ops recs { s with nb:=s.nb+8*ops.length } (λj=>j<p\/(p<j/\(getN (kX ops []) (0+j)).testBit (0+p)=false)):=by
   refine⟨g1,rfl,λj o r N W=>?_,λj o e N he u=>?_,λi j x y hij hx hy=>?_,λi j x y hij hx hy=>?_⟩
   ·obtain⟨p1,p2⟩:=g6 j o r N W;have e:=qx recs 0 j { s with nb:=s.nb+8*ops.length };simp only[cU]at e p2 ⊢;exact⟨λt U=>p1▸U,λhc=>(p2 hc).eqv e⟩
   ·have:=jE ops 0 hb1 j o e N he u;omega
   ·have:=mX (masks:=kX ops []) ops [] hb2 i j x y (by simpa using hij) (by simpa using hx) hy;simp only[fR,cU]at this;exact this.imp (g j i) λh=>h
   ·by_cases M:i=p
    ·
     subst M;rw[gr]at hx;cases hx;rcases A j y hy (by omega)with⟨h,_⟩ | h
     ·omega
     ·exact .inr (by simp[gw,h,keys])
    ·by_cases L:j=p
     ·subst L;rw[gr]at hy;cases hy;rcases A i x hx M with⟨_,h⟩ | h
      ·exact .inl h
      ·exact .inr (by simp[gw,h,keys])
     ·exact C trf x y i j I hij (g5 i x hx M) (g5 j y hy L)
  have c:Eqv ((recs.take p).foldl St.put { s with nb:=s.nb+8*ops.length }) (appD 0 recs (λm=>decide (m<p)) { s with nb:=s.nb+8*ops.length }):=by
   have e:=qx recs 0 p { s with nb:=s.nb+8*ops.length };simpa using e
  have X:∀j,j<ops.length->j≠p->(j<p\/(p<j/\(getN (kX ops []) (0+j)).testBit (0+p)=false))\/Must ops p j:=by
   intro j _ hne;cases u:(getN (kX ops []) (0+j)).testBit (0+p)with
   | false=>exact .inl ((Nat.lt_or_gt_of_ne hne).imp (λh=>h) λh=>⟨h,rfl⟩)
   | true=>simp only[cU]at u;exact .inr (g j p u)
  refine wp_region_any R (Oa F g0 gr (g7.eqv c) X (λD hD hd hn G x a' w' hv f=>⟨.pan v,_,G,⟨x,rfl,hv⟩,?inv,S⟩) _ _ ι a _ (by simp) (λj o e _ J=>by rw[K j]at J;cases J) (K p) (by rw[hno _ 0 _ _ K];exact hI1) (λi _ _ b u _=>?fresh) ?len)
  case inv=>
   have hH:∀b,look Q.H b=look (appD 0 recs D { s with nb:=s.nb+8*ops.length }).H b:=by
    intro b;rw[O.H,c.H,wI,wI];refine pt _ 0 _ _ b _ λj r V u=>?_;simp only[cU];by_cases L:j=p
    ·subst L;rw[gr]at V;cases V;rw[gw]at u;simp[keys]at u
    ·rcases A j r V L with⟨d,hm⟩ | hm
     ·rw[hm.in hD g0 hd (by omega)];simp[d]
     ·rw[hm]at u;simp[keys]at u
   have hT:∀t v,look (If ops s.T) t=some (some v)->look (appD 0 recs D { s with nb:=s.nb+8*ops.length }).T t=some (some v):=by
    intro t v U;obtain⟨d,h2⟩:=uo ops t v U;rw[zu,y7 _ 0 D t _ λj r V W=>?_]
    ·exact h2
    ·exfalso;obtain⟨o,N⟩:=wo F V;exact d o (fG N) ((F.loc j o r N V).1 t W)
   refine⟨f.size,f.defers,λt v U=>f.tmps t v (hT t v U),⟨f.mem.inj,λb r u=>?_,f.mem.dom,λb blk hl hdd=>f.mem.blk b blk ?_ hdd⟩,?_,f.new,?_,λb r u=>?_,?_,?_⟩
   ·have:=f.mem.low b r u;have e:=O.nb.trans c.nb;rw[lK]at e;show b<Q.nb;rw[e];exact this
   ·show look (wr++(appD 0 recs D { s with nb:=s.nb+8*ops.length }).H) b=_;rw[pG,<-hH b,<-pG];exact hl
   ·have e:=O.rb.trans c.rb;rw[yd]at e;have d:=f.ext;show ∀b q,ι0 b=some q->G b=some q\/Q.rb<=b;rw[e];simp only[St.app,yd]at d;exact d
   ·have e:=O.ro.trans c.ro;rw[ji]at e;have d:=f.fr;show Fr (roI ι0 Q.ro) w0.w w';rw[e];simp only[St.app,ji]at d;exact d
   ·have e:=O.lo.trans c.lo;rw[wM]at e;have d:=f.low b r u;show b<Q.lo;rw[e];simp only[St.app,wM]at d;exact d
   ·have e:=O.ro.trans c.ro;rw[ji]at e;have d:=f.fz;show ∀b q,G b=some (some q)->q.fz=true->b<Q.ro;rw[e];simp only[St.app,ji]at d;exact d
   ·have e:=O.ro.trans c.ro;rw[ji]at e;have d:=f.gl;show GL (roI ι0 Q.ro) w0.w;rw[e];simp only[St.app,ji]at d;exact d
  case fresh=>exact hI.fresh b (by omega)
  case len=>
   have:=Ag (λi=>!Dn (Array.replicate ops.toArray.size false) i) (List.range ops.length);simpa using this
end Go.Abs
