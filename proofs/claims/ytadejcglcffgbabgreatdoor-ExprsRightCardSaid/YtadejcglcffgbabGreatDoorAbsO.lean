
import Derived.Test.YtadejcglcffgbabGreatDoorAbsK
set_option linter.unusedSimpArgs false
set_option linter.unusedVariables false
set_option linter.defProp false
namespace Go.Abs
variable {P:Program}
mutual
def V.lt(nb:Nat):V->Bool
 | .p c _ | .sl c _ _ _ | .pr _ c _ _ | .ws c | .rs _ c _ _ _ | .mp c=>Nat.blt c nb
 | .fn _ l | .ag l | .tp l=>V.lts nb l
 | .it _ v=>V.lt nb v
 | .b _ | .i _ _ | .s _ | .pn | .sn | .nf | .ni | .ai _ _ _ | .unk=>true
def V.lts(nb:Nat):List V->Bool
 | []=>true
 | v::l=>V.lt nb v&&V.lts nb l
end
def Blk.lt(nb:Nat):Blk->Bool
 | .cells l=>V.lts nb l
 | _=>true
def IE{α:Type}(nb:Nat)(H:List (Nat×Blk)):List Nat->(List (Nat×Blk)->Option α)->Option α
 | [],k=>k []
 | b::l,k=>match look H b with
  | some blk=>match Blk.lt nb blk&&Nat.blt b nb with
   | true=>IE nb H l λm=>k ((b,blk)::m)
   | false=>none
  | none=>none
inductive Fix where
 | nilT (t g:Nat) (tr:List Lf)
 | nilH (b i g:Nat) (tr:List Lf)
 | rsT (t:Nat)
 | rsH (b i:Nat)
def fixK{α:Type}(f:Fix)(s:St)(k:St->Option α):Option α:=
 match f with
 | .nilT t g tr=>match look s.T t with
  | some (some .sn)=>match Nat.ble s.nb g with
   | true=>k { T:=(t,some (.ws g))::s.T,H:=(g,.rows tr [])::s.H,nb:=g+1,lo:=s.lo,ro:=s.ro,rb:=s.rb }
   | false=>none
  | some (some (.ws _))=>k s
  | _=>none
 | .nilH b i g tr=>match look s.H b with
  | some (.cells l)=>match l[i]? with
   | some .sn=>match Nat.ble s.nb g with
    | true=>k { T:=s.T,H:=(b,.cells (l.set i (.ws g)))::(g,.rows tr [])::s.H,nb:=g+1,lo:=s.lo,ro:=s.ro,rb:=s.rb }
    | false=>none
   | some (.ws _)=>k s
   | _=>none
  | _=>none
 | .rsT t=>match look s.T t with
  | some (some (.ws c))=>match look s.H c with
   | some (.rows tr l)=>k { T:=(t,some (.rs tr.length c 0 l.length none))::s.T,H:=s.H,nb:=s.nb,lo:=s.lo,ro:=s.ro,rb:=s.rb }
   | _=>none
  | some (some (.rs z c j n (some _)))=>k { T:=(t,some (.rs z c j n none))::s.T,H:=s.H,nb:=s.nb,lo:=s.lo,ro:=s.ro,rb:=s.rb }
  | some (some (.rs _ _ _ _ none))=>k s
  | _=>none
 | .rsH b i=>match look s.H b with
  | some (.cells l)=>match l[i]? with
   | some (.ws c)=>match look s.H c with
    | some (.rows tr m)=>k { T:=s.T,H:=(b,.cells (l.set i (.rs tr.length c 0 m.length none)))::s.H,nb:=s.nb,lo:=s.lo,ro:=s.ro,rb:=s.rb }
    | _=>none
   | some (.rs z c j n (some _))=>k { T:=s.T,H:=(b,.cells (l.set i (.rs z c j n none)))::s.H,nb:=s.nb,lo:=s.lo,ro:=s.ro,rb:=s.rb }
   | some (.rs _ _ _ _ none)=>k s
   | _=>none
  | _=>none
def CJ{α:Type}:List Fix->St->(St->Option α)->Option α
 | [],s,k=>k s
 | f::l,s,k=>fixK f s λs=>CJ l s k
def CB{α:Type}{nb:Nat}{H:List (Nat×Blk)}:∀{l:List Nat} {k:List (Nat×Blk)->Option α} {z:α},IE nb H l k=some z->
  ∃d,k d=some z/\∀b blk,look d b=some blk->look H b=some blk/\Blk.lt nb blk=true/\b<nb
 | [],k,z,h=>⟨[],h,λt v h=>by cases h⟩
 | b::l,k,z,h=>by
  simp only[IE]at h;split at h
  ·rename_i blk f;split at h
   ·rename_i a;simp only[aC]at a;obtain⟨d,i,g⟩:=CB h;refine⟨_,i,λc x hc=>?_⟩;rw[aO]at hc;split at hc
    ·rename_i e;subst e;simp only[aq]at hc;subst hc;exact⟨f,a.1,aJ a.2⟩
    ·exact g c x hc
   ·cases h
  ·cases h
def Weak(s s':St):Prop:=∀(n:Nat) (ι0 ι:Inj) (w0:Base) (a:Act) (w:World),Inv n ι0 w0 ι s a w->∃b,Inv n ι0 w0 b s' a w
def Weak.refl(s:St):Weak s s:=λ_ _ ι _ _ _ h=>⟨ι,h⟩
def Weak.trans{a b c:St}(h:Weak a b)(C:Weak b c):Weak a c:=λn ι0 ι w0 ac w A=>
 let⟨ι1,h1⟩:=h n ι0 ι w0 ac w A
 C n ι0 ι1 w0 ac w h1
def Inv.phantom{n:Nat}{ι0 ι:Inj}{w0:Base}{s:St}{a:Act}{w:World}(A:Inv n ι0 w0 ι s a w){g:Nat}(C:s.nb<=g)(tr:List Lf):
  Inv n ι0 w0 (upd ι g none) { T:=s.T,H:=(g,.rows tr [])::s.H,nb:=g+1,lo:=s.lo,ro:=s.ro,rb:=s.rb } a w:=
 A.phantom' (A.fresh g C) (by omega) (Nat.lt_succ_self g) tr
def Inv.setT{n:Nat}{ι0 ι:Inj}{w0:Base}{s:St}{a:Act}{w:World}(A:Inv n ι0 w0 ι s a w){t:Nat}{u v:V}(E:look s.T t=some (some u))(J:∀x,VR ι u x->VR ι v x):
  Inv n ι0 w0 ι { T:=(t,some v)::s.T,H:=s.H,nb:=s.nb,lo:=s.lo,ro:=s.ro,rb:=s.rb } a w:=by
 refine⟨A.size,A.defers,λC G h=>?_,A.mem,A.ext,A.new,A.fr,A.low,A.fz,A.gl⟩;rw[aO]at h;split at h
 ·rename_i e;subst e;simp only[aq]at h;subst h;obtain⟨x,M,F⟩:=A.tmps t u E;exact⟨x,M,J x F⟩
 ·exact A.tmps C G h
def Inv.setH{n:Nat}{ι0 ι:Inj}{w0:Base}{s:St}{a:Act}{w:World}(A:Inv n ι0 w0 ι s a w){b i:Nat}{l:List V}{u v:V}(J:look s.H b=some (.cells l))(hi:l[i]?=some u)(W:∀x,VR ι u x->VR ι v x):
  Inv n ι0 w0 ι { T:=s.T,H:=(b,.cells (l.set i v))::s.H,nb:=s.nb,lo:=s.lo,ro:=s.ro,rb:=s.rb } a w:=by
 refine⟨A.size,A.defers,A.tmps,⟨A.mem.inj,A.mem.low,A.mem.dom,λc y h Q=>?_⟩,A.ext,A.new,A.fr,A.low,A.fz,A.gl⟩;rw[aO]at h;split at h
 ·rename_i e;subst e;simp only[aq]at h;subst h;obtain⟨q,E,e,fr,U,M,F,G⟩:=m7 A.mem J;refine .inl ⟨q,_,U,M,E,e,fr,rfl,?_,G⟩;obtain⟨x,hx,C⟩:=F.get hi;have:=F.set i (W x C);rwa[show E.toList.set i x=E.toList from by
   apply vh;intro j;rw[List.getElem?_set];split
   ·rename_i e;subst e;split
    ·exact hx.symm
    ·rename_i O;rw[dX (by omega)]at hx;cases hx
   ·rfl]at this
 ·exact A.mem.blk c y h Q
def LV{ι:Inj}{H:List (Nat×Blk)}{nb c:Nat}{w:World}(d:WR ι H nb w){t:List Lf}{l:List (den t)}(e:look H c=some (.rows t l)):∀x,VR ι (.ws c) x->VR ι (.rs t.length c 0 l.length none) x:=by
 intro x hx;simp only[VR]at hx ⊢;rcases gD d e with⟨q,n,i,fr,b,j,g,m,_⟩ | ⟨b,rfl⟩
 ·rcases hx with⟨h,a,rfl⟩ | ⟨a,_⟩
  ·rw[a]at b;cases b;exact .inl ⟨q,q.k,q.o,a,⟨by omega,iu⟩,λ_=>by omega,by rw[g]⟩
  ·rw[a]at b;cases b
 ·rcases hx with⟨h,a,_⟩ | ⟨a,f,rfl⟩
  ·rw[a]at b;cases b
  ·exact .inr ⟨a,⟨rfl,iu⟩,f,rfl⟩
def I9{ι:Inj}{z c j n m:Nat}:∀x,VR ι (.rs z c j n (some m)) x->VR ι (.rs z c j n none) x:=by
 intro x hx;simp only[VR]at hx ⊢;rcases hx with⟨q,cp,o,d,b,a⟩ | ⟨d,b,a⟩
 ·exact .inl ⟨q,cp,o,d,⟨b.1,iu⟩,a⟩
 ·exact .inr ⟨d,⟨b.1,iu⟩,a⟩
def KG{α:Type}{f:Fix}{s:St}{k:St->Option α}{z:α}(h:fixK f s k=some z):∃s',k s'=some z/\Weak s s':=by
 unfold fixK at h;split at h
 ·rename_i t g tr;split at h
  ·rename_i p;split at h
   case h_2=>cases h
   rename_i o;have o:=aJ o;refine⟨_,h,λn ι0 ι w0 a w d=>⟨upd ι g none,?_⟩⟩;refine(d.phantom o tr).setT (u:=.sn) p λx hx=>?_;simp only[VR]at hx ⊢;exact .inr ⟨cH _ _ _,none,hx⟩
  ·exact⟨s,h,Weak.refl s⟩
  ·cases h
 ·rename_i b i g tr;split at h
  case h_2=>cases h
  rename_i l e;split at h
  ·rename_i hi;split at h
   case h_2=>cases h
   rename_i o;have o:=aJ o;refine⟨_,h,λn ι0 ι w0 a w d=>⟨upd ι g none,?_⟩⟩;have r:b≠g:=by
    rintro rfl;obtain⟨q,_,_,_,v,_⟩:=m7 d.mem e;have:=d.mem.low b _ v;omega
   refine(d.phantom o tr).setH (u:=.sn) (by simp only[aO];rw[ab (Ne.symm r)];exact e) hi λx hx=>?_;simp only[VR]at hx ⊢;exact .inr ⟨cH _ _ _,none,hx⟩
  ·exact⟨s,h,Weak.refl s⟩
  ·cases h
 ·rename_i t;split at h
  ·rename_i c p;split at h
   case h_2=>cases h
   rename_i tr l e;exact⟨_,h,λn ι0 ι w0 a w d=>⟨ι,d.setT p (LV d.mem e)⟩⟩
  ·rename_i z c j n m p;exact⟨_,h,λn ι0 ι w0 a w d=>⟨ι,d.setT p I9⟩⟩
  ·exact⟨s,h,Weak.refl s⟩
  ·cases h
 ·rename_i b i;split at h
  case h_2=>cases h
  rename_i l e;split at h
  ·rename_i c hi;split at h
   case h_2=>cases h
   rename_i tr m hc;exact⟨_,h,λn ι0 ι w0 a w d=>⟨ι,d.setH e hi (LV d.mem hc)⟩⟩
  ·rename_i z c j n m' hi;exact⟨_,h,λn ι0 ι w0 a w d=>⟨ι,d.setH e hi I9⟩⟩
  ·exact⟨s,h,Weak.refl s⟩
  ·cases h
def yj{α:Type}:∀{l:List Fix} {s:St} {k:St->Option α} {z:α},CJ l s k=some z->∃s',k s'=some z/\Weak s s'
 | [],s,k,z,h=>⟨s,h,Weak.refl s⟩
 | f::l,s,k,z,h=>by
  simp only[CJ]at h;obtain⟨g,e,c⟩:=KG h;obtain⟨d,b,a⟩:=yj e;exact⟨d,b,c.trans a⟩
def aw{X Y:Type}(step:X->Option (X⊕Y)):Nat->X->Option Y
 | 0,_=>none
 | n+1,x=>match step x with
  | some (.inl a)=>aw step n a
  | some (.inr y)=>some y
  | none=>none
def Weak.post{s s':St}(h:Weak s s'){n:Nat}{ι0 ι:Inj}{w0:Base}{a:Act}{w:World}(E:Inv n ι0 w0 ι s a w){ex:Ex}{e:Exit}(C:ExR ι ex e)
  (G:∀v,ex=.pan v->V.flat v=true):∃A,ExR A ex e/\Inv n ι0 w0 A s' a w:=by
 obtain⟨A,F⟩:=h n ι0 ι w0 a w E;refine⟨A,?_,F⟩;cases ex with
 | pan v=>
  obtain⟨x,rfl,hx⟩:=C;exact⟨x,rfl,VR.flat v x (G v rfl) hx⟩
 | _=>exact C
def Kt {X Y:Type} {E:List Ent} (z:∀x∈E,ib P x) {L:List Sub} {n:Nat} {c:AC} (C:mA P n L c) {emb:X->St} {out:Y->Ex×St} {step:X->Option (X⊕Y)} {rd:Ex->St->Option (X⊕Y)}
  (hx:∀ex s x,rd ex s=some (.inl x)->ex=.normal/\Weak s (emb x)) (hy:∀ex s y,rd ex s=some (.inr y)->ex≠.normal/\ex=(out y).1/\Weak s (out y).2/\∀v,ex=.pan v->V.flat v=true)
  (u:∀x,run P E L n c (emb x) rd=step x):∀(m:Nat) (x:X) (y:Y),aw step m x=some y->
   SemC P n (.loop c.code) (emb x) λex s=>ex=(out y).1/\s=(out y).2:=by
 intro m x y h ι0 w0 ι a w B;refine wp_loop_rounds m ?_
 induction m generalizing x ι a w with
 | zero=>cases h
 | succ m ih=>
  rw [rounds_succ];simp only [aw] at h;cases hs:step x with
  | none=>rw [hs] at h;cases h
  | some r=>
   rw [hs] at h;refine sg ?_ (ot z c _ _ r C (by rw [u x];exact hs) ι0 w0 ι a w B);rintro e o w' ⟨ex,s,l,b,q,p⟩;cases r with
   | inl t=>
    obtain ⟨rfl,g⟩:=hx ex s t p;simp only [ExR] at b;subst b;obtain ⟨d,j⟩:=g n ι0 l w0 o w' q;exact ih t h d o w' j
   | inr f=>
    obtain ⟨k,D,g,F⟩:=hy ex s f p;simp only [aq] at h;subst h;obtain ⟨d,j,A⟩:=g.post q b F;refine (?_:Post n ι0 w0 (λex s=>ex=(out f).1/\s=(out f).2) e o w'->_) ⟨ex,_,d,j,A,D,rfl⟩;cases ex with
    | normal=>exact absurd rfl k
    | exit i=>simp only [ExR] at b;subst b;exact λh=>h
    | ret=>simp only [ExR] at b;subst b;exact λh=>h
    | pan v=>obtain ⟨_,rfl,_⟩:=b;exact λh=>h
def SemC.weak{n:Nat}{c:Code}{s s':St}{C:Ex->St->Prop}(h:Weak s s')(E:SemC P n c s' C):SemC P n c s C:=by
 intro ι0 w0 ι a w F;obtain⟨A,G⟩:=h n ι0 ι w0 a w F;exact E ι0 w0 A a w G
def SemC.mono{n:Nat}{c:Code}{s:St}{C A:Ex->St->Prop}(h:SemC P n c s C)(hi:∀ex s,C ex s->A ex s):SemC P n c s A:=
 λι0 w0 ι a w G=>sg (λ_ _ _ ⟨ex,s,ι,J,F,E⟩=>⟨ex,s,ι,J,F,hi ex s E⟩) (h ι0 w0 ι a w G)
def subE{X Y:Type}(m:Nat)(rd:St->Option X)(f:X->Option Y)(a:(α:Type)->Y->(Ex->St->Option α)->Option α):Sub:=
 ⟨m,λα s k=>ob (rd s) λx=>ob (f x) λy=>a α y k⟩
def FG{α X Y:Type}{n m:Nat}{c:Code}{rd:St->Option X}{f:X->Option Y}{a:(α:Type)->Y->(Ex->St->Option α)->Option α}{out:Y->Ex×St}(o:∀α y k,a α y k=k (out y).1 (out y).2){emb:X->St}(b:∀s x,rd s=some x->Weak s (emb x))
  (l:∀x y,f x=some y->SemC P n c (emb x) λex s=>ex=(out y).1/\s=(out y).2) {s:St} {k:Ex->St->Option α} {z:α} (h:(subE m rd f a).e α s k=some z):
  SemC P n c s λex s'=>k ex s'=some z:=by
 simp only[subE]at h;obtain⟨x,i,h⟩:=av h;obtain⟨y,g,h⟩:=av h;rw[o]at h;exact SemC.weak (b s x i) ((l x y g).mono λex s ⟨j,d⟩=>by rw[j,d];exact h)
def retX{R:Type}(a:V->Option R):Bool->V->St->Option R
 | false,v,_=>cond (V.flat v) (a v) none
 | true,_,_=>none
def HN{R:Type}{k:V->Option R}{enc:R->V}(g:∀v r,k v=some r->v=enc r){E:List Ent}(o:∀x∈E,ib P x){L:List Sub}{f:Nat}{fn:Func}{c:Code}{ac:AC}
  (A:P.funcs[f]?=some fn) (m:fn.body=some c) (hc:ac.code=c) (y:mA P fn.ntmps L ac) {args:List V} {r:R} (z:Nat.ble args.length fn.ntmps=true)
  (h:run P E L fn.ntmps ac ⟨wZ args 0,[],0,0,0,0⟩ (finK P fn.results.toList (retX k))=some r):kV P f args (enc r):=by
 intro w n p hx;refine(D4 o A m hc y z h ii w n (WR.nothing w) (λ_ _ h=>by cases h) (p.mono λb q h=>by have:=rB h;cases this) hx).mono λe w' ⟨pan,u,s,ι,a,_,_,_,_,l,j⟩=>?_;cases pan with
 | true=>cases a
 | false=>
  simp only[retX]at a;obtain⟨d,a⟩:=dU a;have t:=g u r a;subst t;cases e with
  | returned x=>exact⟨x,rfl,VR.flat _ _ d j.2,EE l⟩
  | panicked i=>exact absurd j.1 (by simp)
  | outgrown=>exact j.elim
def xC{A R:Type}(f:Nat)(b:List V->Option A)(sh:A->Option R)(enc:R->V):Ent:=
 ⟨f,λ_ args _ _ k=>ob (b args) λa=>ob (sh a) λr=>k { val:=enc r }⟩
def pA{A R:Type}{f:Nat}{j:List V->Option A}{sh:A->Option R}{enc:R->V}{arg:A->List V}(c:pg P f)(i:∀l a,j l=some a->l=arg a)
  (e:∀a,V.flats (arg a)=true) (h:∀a r,sh a=some r->kV P f (arg a) (enc r)):ib P (xC f j sh enc):=by
 intro α args H fr k z d;simp only[xC]at d;obtain⟨a,o,b⟩:=av d;obtain⟨r,n,g⟩:=av b;clear d b;have:=i args a o;subst this;exact⟨_,g,λm _=>.inl ⟨c,(h a r n).call (e a) m fr⟩⟩
def subs:AC->List (Nat×AC)
 | .seq a b | .cond _ a b=>subs a++subs b
 | .block _ a | .loop a | .scope a=>subs a
 | .sub m c=>[(m,c)]
 | _=>[]
def getS:List (Nat×AC)->Nat->AC
 | [],_=>.skip
 | (k,c)::l,m=>cond (Nat.beq k m) c (getS l m)
def AC.body:AC->AC
 | .loop c=>c
 | c=>c
def O0(P:Program)(n:Nat)(L:List Sub)(m:Nat)(c:AC):Prop:=
 ∀(α:Type) (s:St) (k:Ex->St->Option α) (z:α),C0 α m s k L=some z->SemC P n c.code s λex s'=>k ex s'=some z
def lj{n:Nat}{L:List Sub}:∀(c:AC),(∀p∈subs c,O0 P n L p.1 p.2)->mA P n L c
 | .seq a b,h=>⟨lj a λp hp=>h p (by simp[subs,hp]),lj b λp hp=>h p (by simp[subs,hp])⟩
 | .cond c a b,h=>⟨lj a λp hp=>h p (by simp[subs,hp]),lj b λp hp=>h p (by simp[subs,hp])⟩
 | .block _ a,h=>by simp only[mA];exact lj a λp hp=>h p (by simp[subs,hp])
 | .loop a,h=>by simp only[mA];exact lj a λp hp=>h p (by simp[subs,hp])
 | .scope a,h=>by simp only[mA];exact lj a λp hp=>h p (by simp[subs,hp])
 | .sub m c,h=>h (m,c) (by simp[subs])
 | .skip,_ | .ret,_ | .exit _,_ | .reg _ _,_ | .draw _ _,_ | .bad _,_ | .label _,_=>by simp[mA]
def uV(f:Func):Code:=match f.body with | some c=>c | none=>.skip
def acOf(f:Func):AC:=(oP (uV f) 0).1
def jB(l:List Nat):AC->AC
 | .seq a b=>.seq (jB l a) (jB l b)
 | .cond c a b=>.cond c (jB l a) (jB l b)
 | .block id a=>.block id (jB l a)
 | .loop a=>.loop (jB l a)
 | .scope a=>.scope (jB l a)
 | .sub m c=>cond (l.any (Nat.beq m)) (jB l c) (.sub m (jB l c))
 | c=>c
def fA(l:List Nat):∀c:AC,(jB l c).code=c.code
 | .seq a b=>by simp[jB,AC.code,fA l a,fA l b]
 | .cond c a b=>by simp[jB,AC.code,fA l a,fA l b]
 | .block id a=>by simp[jB,AC.code,fA l a]
 | .loop a=>by simp[jB,AC.code,fA l a]
 | .scope a=>by simp[jB,AC.code,fA l a]
 | .sub m c=>by
  simp only[jB];cases l.any (Nat.beq m)<;>simp[AC.code,fA l c]
 | .skip | .ret | .exit _ | .reg _ _ | .draw _ _ | .bad _ | .label _=>rfl
def acU(l:List Nat)(f:Func):AC:=jB l (acOf f)
def EL(f:Func):(acOf f).code=uV f:=iq _ _
def AX(l:List Nat)(f:Func):(acU l f).code=uV f:=(fA l _).trans (EL f)
end Go.Abs
