
import Derived.Test.YtadejcglcffgbaaGreatDoorAbsK
set_option linter.unusedSimpArgs false
set_option linter.unusedVariables false
set_option linter.defProp false
namespace Go.Abs
variable {P:Program}
mutual
def V.lt(nb:Nat):V->Bool
 | .p c _ | .sl c _ _ _ | .pr _ c _ _ | .ws c | .rs _ c _ _ _ | .mp c=>Nat.blt c nb
 | .fn _ l | .ag l | .tp l=>V.lts nb l
 | .it _ v=>V.lt nb v
 | .b _ | .i _ _ | .s _ | .pn | .sn | .nf | .ni | .ai _ _ _ | .unk=>true
def V.lts(nb:Nat):List V->Bool
 | []=>true
 | v::l=>V.lt nb v&&V.lts nb l
end
def Blk.lt(nb:Nat):Blk->Bool
 | .cells l=>V.lts nb l
 | _=>true
def PQ{α:Type}(nb:Nat)(H:List (Nat×Blk)):List Nat->(List (Nat×Blk)->Option α)->Option α
 | [],k=>k []
 | b::l,k=>match look H b with
  | some blk=>match Blk.lt nb blk&&Nat.blt b nb with
   | true=>PQ nb H l λm=>k ((b,blk)::m)
   | false=>none
  | none=>none
inductive Fix where
 | nilT (t g:Nat) (tr:List Lf)
 | nilH (b i g:Nat) (tr:List Lf)
 | rsT (t:Nat)
 | rsH (b i:Nat)
def fixK{α:Type}(f:Fix)(s:St)(k:St->Option α):Option α:=
 match f with
 | .nilT t g tr=>match look s.T t with
  | some (some .sn)=>match Nat.ble s.nb g with
   | true=>k { T:=(t,some (.ws g))::s.T,H:=(g,.rows tr [])::s.H,nb:=g+1,lo:=s.lo,ro:=s.ro,rb:=s.rb }
   | false=>none
  | some (some (.ws _))=>k s
  | _=>none
 | .nilH b i g tr=>match look s.H b with
  | some (.cells l)=>match l[i]? with
   | some .sn=>match Nat.ble s.nb g with
    | true=>k { T:=s.T,H:=(b,.cells (l.set i (.ws g)))::(g,.rows tr [])::s.H,nb:=g+1,lo:=s.lo,ro:=s.ro,rb:=s.rb }
    | false=>none
   | some (.ws _)=>k s
   | _=>none
  | _=>none
 | .rsT t=>match look s.T t with
  | some (some (.ws c))=>match look s.H c with
   | some (.rows tr l)=>k { T:=(t,some (.rs tr.length c 0 l.length none))::s.T,H:=s.H,nb:=s.nb,lo:=s.lo,ro:=s.ro,rb:=s.rb }
   | _=>none
  | some (some (.rs z c j n (some _)))=>k { T:=(t,some (.rs z c j n none))::s.T,H:=s.H,nb:=s.nb,lo:=s.lo,ro:=s.ro,rb:=s.rb }
  | some (some (.rs _ _ _ _ none))=>k s
  | _=>none
 | .rsH b i=>match look s.H b with
  | some (.cells l)=>match l[i]? with
   | some (.ws c)=>match look s.H c with
    | some (.rows tr m)=>k { T:=s.T,H:=(b,.cells (l.set i (.rs tr.length c 0 m.length none)))::s.H,nb:=s.nb,lo:=s.lo,ro:=s.ro,rb:=s.rb }
    | _=>none
   | some (.rs z c j n (some _))=>k { T:=s.T,H:=(b,.cells (l.set i (.rs z c j n none)))::s.H,nb:=s.nb,lo:=s.lo,ro:=s.ro,rb:=s.rb }
   | some (.rs _ _ _ _ none)=>k s
   | _=>none
  | _=>none
def IH{α:Type}:List Fix->St->(St->Option α)->Option α
 | [],s,k=>k s
 | f::l,s,k=>fixK f s λs=>IH l s k
def I9{α:Type}{nb:Nat}{H:List (Nat×Blk)}:∀{l:List Nat} {k:List (Nat×Blk)->Option α} {z:α},PQ nb H l k=some z->
  ∃d,k d=some z/\∀b blk,look d b=some blk->look H b=some blk/\Blk.lt nb blk=true/\b<nb
 | [],k,z,h=>⟨[],h,λt v h=>by cases h⟩
 | b::l,k,z,h=>by
  simp only[PQ]at h;split at h
  ·rename_i blk f;split at h
   ·rename_i a;simp only[aB]at a;obtain⟨d,i,g⟩:=I9 h;refine⟨_,i,λc x hc=>?_⟩;rw[aS]at hc;split at hc
    ·rename_i e;subst e;simp only[aq]at hc;subst hc;exact⟨f,a.1,aI a.2⟩
    ·exact g c x hc
   ·cases h
  ·cases h
def Weak(s s':St):Prop:=∀(n:Nat) (ι0 ι:Inj) (w0:Base) (a:Act) (w:World),Inv n ι0 w0 ι s a w->∃b,Inv n ι0 w0 b s' a w
def Weak.refl(s:St):Weak s s:=λ_ _ ι _ _ _ h=>⟨ι,h⟩
def Weak.trans{a b c:St}(h:Weak a b)(E:Weak b c):Weak a c:=λn ι0 ι w0 ac w C=>
 let⟨ι1,h1⟩:=h n ι0 ι w0 ac w C
 E n ι0 ι1 w0 ac w h1
def Inv.phantom{n:Nat}{ι0 ι:Inj}{w0:Base}{s:St}{a:Act}{w:World}(C:Inv n ι0 w0 ι s a w){g:Nat}(E:s.nb<=g)(tr:List Lf):
  Inv n ι0 w0 (upd ι g none) { T:=s.T,H:=(g,.rows tr [])::s.H,nb:=g+1,lo:=s.lo,ro:=s.ro,rb:=s.rb } a w:=
 C.phantom' (C.fresh g E) (by omega) (Nat.lt_succ_self g) tr
def Inv.setT{n:Nat}{ι0 ι:Inj}{w0:Base}{s:St}{a:Act}{w:World}(C:Inv n ι0 w0 ι s a w){t:Nat}{u v:V}(Q:look s.T t=some (some u))(G:∀x,VR ι u x->VR ι v x):
  Inv n ι0 w0 ι { T:=(t,some v)::s.T,H:=s.H,nb:=s.nb,lo:=s.lo,ro:=s.ro,rb:=s.rb } a w:=by
 refine⟨C.size,C.defers,λJ O h=>?_,C.mem,C.ext,C.new,C.fr,C.low,C.fz,C.gl⟩;rw[aS]at h;split at h
 ·rename_i e;subst e;simp only[aq]at h;subst h;obtain⟨x,F,E⟩:=C.tmps t u Q;exact⟨x,F,G x E⟩
 ·exact C.tmps J O h
def Inv.setH{n:Nat}{ι0 ι:Inj}{w0:Base}{s:St}{a:Act}{w:World}(C:Inv n ι0 w0 ι s a w){b i:Nat}{l:List V}{u v:V}(W:look s.H b=some (.cells l))(hi:l[i]?=some u)(U:∀x,VR ι u x->VR ι v x):
  Inv n ι0 w0 ι { T:=s.T,H:=(b,.cells (l.set i v))::s.H,nb:=s.nb,lo:=s.lo,ro:=s.ro,rb:=s.rb } a w:=by
 refine⟨C.size,C.defers,C.tmps,⟨C.mem.inj,C.mem.low,C.mem.dom,λc y h O=>?_⟩,C.ext,C.new,C.fr,C.low,C.fz,C.gl⟩;rw[aS]at h;split at h
 ·rename_i e;subst e;simp only[aq]at h;subst h;obtain⟨q,F,e,fr,Q,J,G,X⟩:=rE C.mem W;refine .inl ⟨q,_,Q,J,F,e,fr,rfl,?_,X⟩;obtain⟨x,hx,E⟩:=G.get hi;have:=G.set i (U x E);rwa[show F.toList.set i x=F.toList from by
   apply AD;intro j;rw[List.getElem?_set];split
   ·rename_i e;subst e;split
    ·exact hx.symm
    ·rename_i Y;rw[f7 (by omega)]at hx;cases hx
   ·rfl]at this
 ·exact C.mem.blk c y h O
def Yp{ι:Inj}{H:List (Nat×Blk)}{nb c:Nat}{w:World}(d:WR ι H nb w){t:List Lf}{l:List (den t)}(h:look H c=some (.rows t l)):∀x,VR ι (.ws c) x->VR ι (.rs t.length c 0 l.length none) x:=by
 intro x hx;simp only[VR]at hx ⊢;rcases jJ d h with⟨q,m,n,fr,b,i,g,j,_⟩ | ⟨b,rfl⟩
 ·rcases hx with⟨e,a,rfl⟩ | ⟨a,_⟩
  ·rw[a]at b;cases b;exact .inl ⟨q,q.k,q.o,a,⟨by omega,kI⟩,λ_=>by omega,by rw[g]⟩
  ·rw[a]at b;cases b
 ·rcases hx with⟨e,a,_⟩ | ⟨a,f,rfl⟩
  ·rw[a]at b;cases b
  ·exact .inr ⟨a,⟨rfl,kI⟩,f,rfl⟩
def SS{ι:Inj}{z c j n m:Nat}:∀x,VR ι (.rs z c j n (some m)) x->VR ι (.rs z c j n none) x:=by
 intro x hx;simp only[VR]at hx ⊢;rcases hx with⟨q,cp,o,b,a,d⟩ | ⟨b,a,d⟩
 ·exact .inl ⟨q,cp,o,b,⟨a.1,kI⟩,d⟩
 ·exact .inr ⟨b,⟨a.1,kI⟩,d⟩
def VW{α:Type}{f:Fix}{s:St}{k:St->Option α}{z:α}(h:fixK f s k=some z):∃s',k s'=some z/\Weak s s':=by
 unfold fixK at h;split at h
 ·rename_i t g tr;split at h
  ·rename_i p;split at h
   case h_2=>cases h
   rename_i o;have o:=aI o;refine⟨_,h,λn ι0 ι w0 a w d=>⟨upd ι g none,?_⟩⟩;refine(d.phantom o tr).setT (u:=.sn) p λx hx=>?_;simp only[VR]at hx ⊢;exact .inr ⟨dJ _ _ _,none,hx⟩
  ·exact⟨s,h,Weak.refl s⟩
  ·cases h
 ·rename_i b i g tr;split at h
  case h_2=>cases h
  rename_i l e;split at h
  ·rename_i hi;split at h
   case h_2=>cases h
   rename_i o;have o:=aI o;refine⟨_,h,λn ι0 ι w0 a w d=>⟨upd ι g none,?_⟩⟩;have r:b≠g:=by
    rintro rfl;obtain⟨q,_,_,_,v,_⟩:=rE d.mem e;have:=d.mem.low b _ v;omega
   refine(d.phantom o tr).setH (u:=.sn) (by simp only[aS];rw[ab (Ne.symm r)];exact e) hi λx hx=>?_;simp only[VR]at hx ⊢;exact .inr ⟨dJ _ _ _,none,hx⟩
  ·exact⟨s,h,Weak.refl s⟩
  ·cases h
 ·rename_i t;split at h
  ·rename_i c p;split at h
   case h_2=>cases h
   rename_i tr l e;exact⟨_,h,λn ι0 ι w0 a w d=>⟨ι,d.setT p (Yp d.mem e)⟩⟩
  ·rename_i z c j n m p;exact⟨_,h,λn ι0 ι w0 a w d=>⟨ι,d.setT p SS⟩⟩
  ·exact⟨s,h,Weak.refl s⟩
  ·cases h
 ·rename_i b i;split at h
  case h_2=>cases h
  rename_i l e;split at h
  ·rename_i c hi;split at h
   case h_2=>cases h
   rename_i tr m hc;exact⟨_,h,λn ι0 ι w0 a w d=>⟨ι,d.setH e hi (Yp d.mem hc)⟩⟩
  ·rename_i z c j n m' hi;exact⟨_,h,λn ι0 ι w0 a w d=>⟨ι,d.setH e hi SS⟩⟩
  ·exact⟨s,h,Weak.refl s⟩
  ·cases h
def EQ{α:Type}:∀{l:List Fix} {s:St} {k:St->Option α} {z:α},IH l s k=some z->∃s',k s'=some z/\Weak s s'
 | [],s,k,z,h=>⟨s,h,Weak.refl s⟩
 | f::l,s,k,z,h=>by
  simp only[IH]at h;obtain⟨g,b,a⟩:=VW h;obtain⟨e,c,d⟩:=EQ b;exact⟨e,c,a.trans d⟩
def av{X Y:Type}(step:X->Option (X⊕Y)):Nat->X->Option Y
 | 0,_=>none
 | n+1,x=>match step x with
  | some (.inl a)=>av step n a
  | some (.inr y)=>some y
  | none=>none
def Weak.post{s s':St}(h:Weak s s'){n:Nat}{ι0 ι:Inj}{w0:Base}{a:Act}{w:World}(J:Inv n ι0 w0 ι s a w){ex:Ex}{e:Exit}(E:ExR ι ex e)
  (G:∀v,ex=.pan v->V.flat v=true):∃C,ExR C ex e/\Inv n ι0 w0 C s' a w:=by
 obtain⟨C,F⟩:=h n ι0 ι w0 a w J;refine⟨C,?_,F⟩;cases ex with
 | pan v=>
  obtain⟨x,rfl,hx⟩:=E;exact⟨x,rfl,VR.flat v x (G v rfl) hx⟩
 | _=>exact E
def VS {X Y:Type} {E:List Ent} (z:∀x∈E,fC P x) {L:List Sub} {n:Nat} {c:AC} (F:jW P n L c) {emb:X->St} {out:Y->Ex×St} {step:X->Option (X⊕Y)} {rd:Ex->St->Option (X⊕Y)}
  (hx:∀ex s x,rd ex s=some (.inl x)->ex=.normal/\Weak s (emb x)) (hy:∀ex s y,rd ex s=some (.inr y)->ex≠.normal/\ex=(out y).1/\Weak s (out y).2/\∀v,ex=.pan v->V.flat v=true)
  (u:∀x,run P E L n c (emb x) rd=step x):∀(m:Nat) (x:X) (y:Y),av step m x=some y->
   SemC P n (.loop c.code) (emb x) λex s=>ex=(out y).1/\s=(out y).2:=by
 intro m x y h ι0 w0 ι a w D;refine wp_loop_rounds m ?_
 induction m generalizing x ι a w with
 | zero=>cases h
 | succ m ih=>
  rw [rounds_succ];simp only [av] at h;cases hs:step x with
  | none=>rw [hs] at h;cases h
  | some r=>
   rw [hs] at h;refine uJ ?_ (pV z c _ _ r F (by rw [u x];exact hs) ι0 w0 ι a w D);rintro e f w' ⟨ex,s,o,b,p,t⟩;cases r with
   | inl q=>
    obtain ⟨rfl,g⟩:=hx ex s q t;simp only [ExR] at b;subst b;obtain ⟨d,k⟩:=g n ι0 o w0 f w' p;exact ih q h d f w' k
   | inr j=>
    obtain ⟨l,C,g,B⟩:=hy ex s j t;simp only [aq] at h;subst h;obtain ⟨d,k,A⟩:=g.post p b B;refine (?_:Post n ι0 w0 (λex s=>ex=(out j).1/\s=(out j).2) e f w'->_) ⟨ex,_,d,k,A,C,rfl⟩;cases ex with
    | normal=>exact absurd rfl l
    | exit i=>simp only [ExR] at b;subst b;exact λh=>h
    | ret=>simp only [ExR] at b;subst b;exact λh=>h
    | pan v=>obtain ⟨_,rfl,_⟩:=b;exact λh=>h
def SemC.weak{n:Nat}{c:Code}{s s':St}{E:Ex->St->Prop}(h:Weak s s')(F:SemC P n c s' E):SemC P n c s E:=by
 intro ι0 w0 ι a w J;obtain⟨C,G⟩:=h n ι0 ι w0 a w J;exact F ι0 w0 C a w G
def SemC.mono{n:Nat}{c:Code}{s:St}{E C:Ex->St->Prop}(h:SemC P n c s E)(hi:∀ex s,E ex s->C ex s):SemC P n c s C:=
 λι0 w0 ι a w J=>uJ (λ_ _ _ ⟨ex,s,ι,G,F,O⟩=>⟨ex,s,ι,G,F,hi ex s O⟩) (h ι0 w0 ι a w J)
def subE{X Y:Type}(m:Nat)(rd:St->Option X)(f:X->Option Y)(a:(α:Type)->Y->(Ex->St->Option α)->Option α):Sub:=
 ⟨m,λα s k=>ob (rd s) λx=>ob (f x) λy=>a α y k⟩
def OU{α X Y:Type}{n m:Nat}{c:Code}{rd:St->Option X}{f:X->Option Y}{a:(α:Type)->Y->(Ex->St->Option α)->Option α}{out:Y->Ex×St}(o:∀α y k,a α y k=k (out y).1 (out y).2){emb:X->St}(b:∀s x,rd s=some x->Weak s (emb x))
  (l:∀x y,f x=some y->SemC P n c (emb x) λex s=>ex=(out y).1/\s=(out y).2) {s:St} {k:Ex->St->Option α} {z:α} (h:(subE m rd f a).e α s k=some z):
  SemC P n c s λex s'=>k ex s'=some z:=by
 simp only[subE]at h;obtain⟨x,j,h⟩:=ax h;obtain⟨y,d,h⟩:=ax h;rw[o]at h;exact SemC.weak (b s x j) ((l x y d).mono λex s ⟨i,g⟩=>by rw[i,g];exact h)
def retX{R:Type}(a:V->Option R):Bool->V->St->Option R
 | false,v,_=>cond (V.flat v) (a v) none
 | true,_,_=>none
def Pz{R:Type}{k:V->Option R}{enc:R->V}(i:∀v r,k v=some r->v=enc r){E:List Ent}(n:∀x∈E,fC P x){L:List Sub}{f:Nat}{fn:Func}{c:Code}{ac:AC}
  (o:P.funcs[f]?=some fn) (l:fn.body=some c) (hc:ac.code=c) (t:jW P fn.ntmps L ac) {args:List V} {r:R} (p:Nat.ble args.length fn.ntmps=true)
  (h:run P E L fn.ntmps ac ⟨tL args 0,[],0,0,0,0⟩ (finK P fn.results.toList (retX k))=some r):na P f args (enc r):=by
 intro w m y hx;refine(Pe n o l hc t p h gQ w m (WR.nothing w) (λ_ _ h=>by cases h) (y.mono λb q h=>by have:=qd h;cases this) hx).mono λe w' ⟨pan,u,s,ι,a,_,_,_,_,z,g⟩=>?_;cases pan with
 | true=>cases a
 | false=>
  simp only[retX]at a;obtain⟨j,a⟩:=dU a;have A:=i u r a;subst A;cases e with
  | returned x=>exact⟨x,rfl,VR.flat _ _ j g.2,KH z⟩
  | panicked d=>exact absurd g.1 (by simp)
  | outgrown=>exact g.elim
def EM{A R:Type}(f:Nat)(b:List V->Option A)(sh:A->Option R)(enc:R->V):Ent:=
 ⟨f,λ_ args _ _ k=>ob (b args) λa=>ob (sh a) λr=>k { val:=enc r }⟩
def ut{A R:Type}{f:Nat}{j:List V->Option A}{sh:A->Option R}{enc:R->V}{arg:A->List V}(c:lB P f)(g:∀l a,j l=some a->l=arg a)
  (i:∀a,V.flats (arg a)=true) (h:∀a r,sh a=some r->na P f (arg a) (enc r)):fC P (EM f j sh enc):=by
 intro α args H fr k z e;simp only[EM]at e;obtain⟨a,o,b⟩:=ax e;obtain⟨r,m,d⟩:=ax b;clear e b;have:=g args a o;subst this;exact⟨_,d,λn _=>.inl ⟨c,(h a r m).call (i a) n fr⟩⟩
def subs:AC->List (Nat×AC)
 | .seq a b | .cond _ a b=>subs a++subs b
 | .block _ a | .loop a | .scope a=>subs a
 | .sub m c=>[(m,c)]
 | _=>[]
def getS:List (Nat×AC)->Nat->AC
 | [],_=>.skip
 | (k,c)::l,m=>cond (Nat.beq k m) c (getS l m)
def AC.body:AC->AC
 | .loop c=>c
 | c=>c
def Zp(P:Program)(n:Nat)(L:List Sub)(m:Nat)(c:AC):Prop:=
 ∀(α:Type) (s:St) (k:Ex->St->Option α) (z:α),Kx α m s k L=some z->SemC P n c.code s λex s'=>k ex s'=some z
def nh{n:Nat}{L:List Sub}:∀(c:AC),(∀p∈subs c,Zp P n L p.1 p.2)->jW P n L c
 | .seq a b,h=>⟨nh a λp hp=>h p (by simp[subs,hp]),nh b λp hp=>h p (by simp[subs,hp])⟩
 | .cond c a b,h=>⟨nh a λp hp=>h p (by simp[subs,hp]),nh b λp hp=>h p (by simp[subs,hp])⟩
 | .block _ a,h=>by simp only[jW];exact nh a λp hp=>h p (by simp[subs,hp])
 | .loop a,h=>by simp only[jW];exact nh a λp hp=>h p (by simp[subs,hp])
 | .scope a,h=>by simp only[jW];exact nh a λp hp=>h p (by simp[subs,hp])
 | .sub m c,h=>h (m,c) (by simp[subs])
 | .skip,_ | .ret,_ | .exit _,_ | .reg _ _,_ | .draw _ _,_ | .bad _,_ | .label _,_=>by simp[jW]
def vC(f:Func):Code:=match f.body with | some c=>c | none=>.skip
def acOf(f:Func):AC:=(tf (vC f) 0).1
def mD(l:List Nat):AC->AC
 | .seq a b=>.seq (mD l a) (mD l b)
 | .cond c a b=>.cond c (mD l a) (mD l b)
 | .block id a=>.block id (mD l a)
 | .loop a=>.loop (mD l a)
 | .scope a=>.scope (mD l a)
 | .sub m c=>cond (l.any (Nat.beq m)) (mD l c) (.sub m (mD l c))
 | c=>c
def iM(l:List Nat):∀c:AC,(mD l c).code=c.code
 | .seq a b=>by simp[mD,AC.code,iM l a,iM l b]
 | .cond c a b=>by simp[mD,AC.code,iM l a,iM l b]
 | .block id a=>by simp[mD,AC.code,iM l a]
 | .loop a=>by simp[mD,AC.code,iM l a]
 | .scope a=>by simp[mD,AC.code,iM l a]
 | .sub m c=>by
  simp only[mD];cases l.any (Nat.beq m)<;>simp[AC.code,iM l c]
 | .skip | .ret | .exit _ | .reg _ _ | .draw _ _ | .bad _ | .label _=>rfl
def acU(l:List Nat)(f:Func):AC:=mD l (acOf f)
def Et(f:Func):(acOf f).code=vC f:=kD _ _
def IS(l:List Nat)(f:Func):(acU l f).code=vC f:=(iM l _).trans (Et f)
end Go.Abs
