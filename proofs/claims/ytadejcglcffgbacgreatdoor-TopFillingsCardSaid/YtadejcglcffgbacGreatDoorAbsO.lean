
import Derived.Test.YtadejcglcffgbacGreatDoorAbsK
set_option linter.unusedSimpArgs false
set_option linter.unusedVariables false
set_option linter.defProp false
namespace Go.Abs
variable {P:Program}
mutual
def V.lt(nb:Nat):V->Bool
 | .p c _ | .sl c _ _ _ | .pr _ c _ _ | .ws c | .rs _ c _ _ _ | .mp c=>Nat.blt c nb
 | .fn _ l | .ag l | .tp l=>V.lts nb l
 | .it _ v=>V.lt nb v
 | .b _ | .i _ _ | .s _ | .pn | .sn | .nf | .ni | .ai _ _ _ | .unk=>true
def V.lts(nb:Nat):List V->Bool
 | []=>true
 | v::l=>V.lt nb v&&V.lts nb l
end
def Blk.lt(nb:Nat):Blk->Bool
 | .cells l=>V.lts nb l
 | _=>true
def HK{α:Type}(nb:Nat)(H:List (Nat×Blk)):List Nat->(List (Nat×Blk)->Option α)->Option α
 | [],k=>k []
 | b::l,k=>match look H b with
  | some blk=>match Blk.lt nb blk&&Nat.blt b nb with
   | true=>HK nb H l λm=>k ((b,blk)::m)
   | false=>none
  | none=>none
inductive Fix where
 | nilT (t g:Nat) (tr:List Lf)
 | nilH (b i g:Nat) (tr:List Lf)
 | rsT (t:Nat)
 | rsH (b i:Nat)
def fixK{α:Type}(f:Fix)(s:St)(k:St->Option α):Option α:=
 match f with
 | .nilT t g tr=>match look s.T t with
  | some (some .sn)=>match Nat.ble s.nb g with
   | true=>k { T:=(t,some (.ws g))::s.T,H:=(g,.rows tr [])::s.H,nb:=g+1,lo:=s.lo,ro:=s.ro,rb:=s.rb }
   | false=>none
  | some (some (.ws _))=>k s
  | _=>none
 | .nilH b i g tr=>match look s.H b with
  | some (.cells l)=>match l[i]? with
   | some .sn=>match Nat.ble s.nb g with
    | true=>k { T:=s.T,H:=(b,.cells (l.set i (.ws g)))::(g,.rows tr [])::s.H,nb:=g+1,lo:=s.lo,ro:=s.ro,rb:=s.rb }
    | false=>none
   | some (.ws _)=>k s
   | _=>none
  | _=>none
 | .rsT t=>match look s.T t with
  | some (some (.ws c))=>match look s.H c with
   | some (.rows tr l)=>k { T:=(t,some (.rs tr.length c 0 l.length none))::s.T,H:=s.H,nb:=s.nb,lo:=s.lo,ro:=s.ro,rb:=s.rb }
   | _=>none
  | some (some (.rs z c j n (some _)))=>k { T:=(t,some (.rs z c j n none))::s.T,H:=s.H,nb:=s.nb,lo:=s.lo,ro:=s.ro,rb:=s.rb }
  | some (some (.rs _ _ _ _ none))=>k s
  | _=>none
 | .rsH b i=>match look s.H b with
  | some (.cells l)=>match l[i]? with
   | some (.ws c)=>match look s.H c with
    | some (.rows tr m)=>k { T:=s.T,H:=(b,.cells (l.set i (.rs tr.length c 0 m.length none)))::s.H,nb:=s.nb,lo:=s.lo,ro:=s.ro,rb:=s.rb }
    | _=>none
   | some (.rs z c j n (some _))=>k { T:=s.T,H:=(b,.cells (l.set i (.rs z c j n none)))::s.H,nb:=s.nb,lo:=s.lo,ro:=s.ro,rb:=s.rb }
   | some (.rs _ _ _ _ none)=>k s
   | _=>none
  | _=>none
def zS{α:Type}:List Fix->St->(St->Option α)->Option α
 | [],s,k=>k s
 | f::l,s,k=>fixK f s λs=>zS l s k
def A1{α:Type}{nb:Nat}{H:List (Nat×Blk)}:∀{l:List Nat} {k:List (Nat×Blk)->Option α} {z:α},HK nb H l k=some z->
  ∃d,k d=some z/\∀b blk,look d b=some blk->look H b=some blk/\Blk.lt nb blk=true/\b<nb
 | [],k,z,h=>⟨[],h,λt v h=>by cases h⟩
 | b::l,k,z,h=>by
  simp only[HK]at h;split at h
  ·rename_i blk f;split at h
   ·rename_i a;simp only[aw]at a;obtain⟨d,h1,h2⟩:=A1 h;refine⟨_,h1,λc x hc=>?_⟩;rw[aG]at hc;split at hc
    ·rename_i e;subst e;simp only[af]at hc;subst hc;exact⟨f,a.1,az a.2⟩
    ·exact h2 c x hc
   ·cases h
  ·cases h
def Weak(s c:St):Prop:=∀(n:Nat) (ι0 ι:Inj) (w0:Base) (a:Act) (w:World),Inv n ι0 w0 ι s a w->∃b,Inv n ι0 w0 b c a w
def Weak.refl(s:St):Weak s s:=λ_ _ ι _ _ _ h=>⟨ι,h⟩
def Weak.trans{a b c:St}(h:Weak a b)(A:Weak b c):Weak a c:=λn ι0 ι w0 ac w C=>
 let⟨ι1,h1⟩:=h n ι0 ι w0 ac w C
 A n ι0 ι1 w0 ac w h1
def Inv.phantom{n:Nat}{ι0 ι:Inj}{w0:Base}{s:St}{a:Act}{w:World}(A:Inv n ι0 w0 ι s a w){g:Nat}(C:s.nb<=g)(tr:List Lf):
  Inv n ι0 w0 (upd ι g none) { T:=s.T,H:=(g,.rows tr [])::s.H,nb:=g+1,lo:=s.lo,ro:=s.ro,rb:=s.rb } a w:=
 A.phantom' (A.fresh g C) (by omega) (Nat.lt_succ_self g) tr
def Inv.setT{n:Nat}{ι0 ι:Inj}{w0:Base}{s:St}{a:Act}{w:World}(A:Inv n ι0 w0 ι s a w){t:Nat}{u v:V}(E:look s.T t=some (some u))(C:∀x,VR ι u x->VR ι v x):
  Inv n ι0 w0 ι { T:=(t,some v)::s.T,H:=s.H,nb:=s.nb,lo:=s.lo,ro:=s.ro,rb:=s.rb } a w:=by
 refine⟨A.size,A.defers,λG F h=>?_,A.mem,A.ext,A.new,A.fr,A.low,A.fz,A.gl⟩;rw[aG]at h;split at h
 ·rename_i e;subst e;simp only[af]at h;subst h;obtain⟨x,h1,h2⟩:=A.tmps t u E;exact⟨x,h1,C x h2⟩
 ·exact A.tmps G F h
def Inv.setH{n:Nat}{ι0 ι:Inj}{w0:Base}{s:St}{a:Act}{w:World}(A:Inv n ι0 w0 ι s a w){b i:Nat}{l:List V}{u v:V}(K:look s.H b=some (.cells l))(hi:l[i]?=some u)(J:∀x,VR ι u x->VR ι v x):
  Inv n ι0 w0 ι { T:=s.T,H:=(b,.cells (l.set i v))::s.H,nb:=s.nb,lo:=s.lo,ro:=s.ro,rb:=s.rb } a w:=by
 refine⟨A.size,A.defers,A.tmps,⟨A.mem.inj,A.mem.low,A.mem.dom,λc y h Q=>?_⟩,A.ext,A.new,A.fr,A.low,A.fz,A.gl⟩;rw[aG]at h;split at h
 ·rename_i e;subst e;simp only[af]at h;subst h;obtain⟨q,E,e,fr,h1,h2,G,O⟩:=mU A.mem K;refine .inl ⟨q,_,h1,h2,E,e,fr,rfl,?_,O⟩;obtain⟨x,F,C⟩:=G.get hi;have:=G.set i (J x C);rwa[show E.toList.set i x=E.toList from by
   apply xY;intro j;rw[List.getElem?_set];split
   ·rename_i e;subst e;split
    ·exact F.symm
    ·rename_i M;rw[ec (by omega)]at F;cases F
   ·rfl]at this
 ·exact A.mem.blk c y h Q
def MK{ι:Inj}{H:List (Nat×Blk)}{nb c:Nat}{w:World}(f:WR ι H nb w){t:List Lf}{l:List (den t)}(i:look H c=some (.rows t l)):∀x,VR ι (.ws c) x->VR ι (.rs t.length c 0 l.length none) x:=by
 intro x d;simp only[VR]at d ⊢;rcases f9 f i with⟨q,p,n,fr,b,m,e,j,_⟩ | ⟨b,rfl⟩
 ·rcases d with⟨g,a,rfl⟩ | ⟨a,_⟩
  ·rw[a]at b;cases b;exact .inl ⟨q,q.k,q.o,a,⟨by omega,gX⟩,λ_=>by omega,by rw[e]⟩
  ·rw[a]at b;cases b
 ·rcases d with⟨g,a,_⟩ | ⟨a,h,rfl⟩
  ·rw[a]at b;cases b
  ·exact .inr ⟨a,⟨rfl,gX⟩,h,rfl⟩
def Iy{ι:Inj}{z c j n m:Nat}:∀x,VR ι (.rs z c j n (some m)) x->VR ι (.rs z c j n none) x:=by
 intro x b;simp only[VR]at b ⊢;rcases b with⟨q,cp,o,h1,h2,a⟩ | ⟨h1,h2,a⟩
 ·exact .inl ⟨q,cp,o,h1,⟨h2.1,gX⟩,a⟩
 ·exact .inr ⟨h1,⟨h2.1,gX⟩,a⟩
def JP{α:Type}{f:Fix}{s:St}{k:St->Option α}{z:α}(h:fixK f s k=some z):∃y,k y=some z/\Weak s y:=by
 unfold fixK at h;split at h
 ·rename_i t g tr;split at h
  ·rename_i p;split at h
   case h_2=>cases h
   rename_i e;have e:=az e;refine⟨_,h,λn ι0 ι w0 a w d=>⟨upd ι g none,?_⟩⟩;refine(d.phantom e tr).setT (u:=.sn) p λx r=>?_;simp only[VR]at r ⊢;exact .inr ⟨bZ _ _ _,none,r⟩
  ·exact⟨s,h,Weak.refl s⟩
  ·cases h
 ·rename_i b i g tr;split at h
  case h_2=>cases h
  rename_i l o;split at h
  ·rename_i hi;split at h
   case h_2=>cases h
   rename_i e;have e:=az e;refine⟨_,h,λn ι0 ι w0 a w d=>⟨upd ι g none,?_⟩⟩;have v:b≠g:=by
    rintro rfl;obtain⟨q,_,_,_,h1,_⟩:=mU d.mem o;have:=d.mem.low b _ h1;omega
   refine(d.phantom e tr).setH (u:=.sn) (by simp only[aG];rw[ab (Ne.symm v)];exact o) hi λx r=>?_;simp only[VR]at r ⊢;exact .inr ⟨bZ _ _ _,none,r⟩
  ·exact⟨s,h,Weak.refl s⟩
  ·cases h
 ·rename_i t;split at h
  ·rename_i c p;split at h
   case h_2=>cases h
   rename_i tr l o;exact⟨_,h,λn ι0 ι w0 a w d=>⟨ι,d.setT p (MK d.mem o)⟩⟩
  ·rename_i z c j n m p;exact⟨_,h,λn ι0 ι w0 a w d=>⟨ι,d.setT p Iy⟩⟩
  ·exact⟨s,h,Weak.refl s⟩
  ·cases h
 ·rename_i b i;split at h
  case h_2=>cases h
  rename_i l o;split at h
  ·rename_i c hi;split at h
   case h_2=>cases h
   rename_i tr m hc;exact⟨_,h,λn ι0 ι w0 a w d=>⟨ι,d.setH o hi (MK d.mem hc)⟩⟩
  ·rename_i z c j n m' hi;exact⟨_,h,λn ι0 ι w0 a w d=>⟨ι,d.setH o hi Iy⟩⟩
  ·exact⟨s,h,Weak.refl s⟩
  ·cases h
def wY{α:Type}:∀{l:List Fix} {s:St} {k:St->Option α} {z:α},zS l s k=some z->∃a,k a=some z/\Weak s a
 | [],s,k,z,h=>⟨s,h,Weak.refl s⟩
 | f::l,s,k,z,h=>by
  simp only[zS]at h;obtain⟨e,h1,h2⟩:=JP h;obtain⟨d,c,b⟩:=wY h1;exact⟨d,c,h2.trans b⟩
def au{X Y:Type}(step:X->Option (X⊕Y)):Nat->X->Option Y
 | 0,_=>none
 | n+1,x=>match step x with
  | some (.inl a)=>au step n a
  | some (.inr y)=>some y
  | none=>none
def Weak.post{s C:St}(h:Weak s C){n:Nat}{ι0 ι:Inj}{w0:Base}{a:Act}{w:World}(J:Inv n ι0 w0 ι s a w){ex:Ex}{e:Exit}(E:ExR ι ex e)
  (F:∀v,ex=.pan v->V.flat v=true):∃A,ExR A ex e/\Inv n ι0 w0 A C a w:=by
 obtain⟨A,h1⟩:=h n ι0 ι w0 a w J;refine⟨A,?_,h1⟩;cases ex with
 | pan v=>
  obtain⟨x,rfl,G⟩:=E;exact⟨x,rfl,VR.flat v x (F v rfl) G⟩
 | _=>exact E
def KE {X Y:Type} {E:List Ent} (G:∀x∈E,cN P x) {L:List Sub} {n:Nat} {c:AC} (z:gi P n L c) {emb:X->St} {out:Y->Ex×St} {step:X->Option (X⊕Y)} {rd:Ex->St->Option (X⊕Y)}
  (D:∀ex s x,rd ex s=some (.inl x)->ex=.normal/\Weak s (emb x)) (A:∀ex s y,rd ex s=some (.inr y)->ex≠.normal/\ex=(out y).1/\Weak s (out y).2/\∀v,ex=.pan v->V.flat v=true)
  (t:∀x,run P E L n c (emb x) rd=step x):∀(m:Nat) (x:X) (y:Y),au step m x=some y->
   SemC P n (.loop c.code) (emb x) λex s=>ex=(out y).1/\s=(out y).2:=by
 intro m x y h ι0 w0 ι a w B;refine wp_loop_rounds m ?_
 induction m generalizing x ι a w with
 | zero=>cases h
 | succ m ih=>
  rw [rounds_succ];simp only [au] at h;cases j:step x with
  | none=>rw [j] at h;cases h
  | some r=>
   rw [j] at h;refine pC ?_ (lc G c _ _ r z (by rw [t x];exact j) ι0 w0 ι a w B);rintro e g w' ⟨ex,s,f,h1,h2,q⟩;cases r with
   | inl p=>
    obtain ⟨rfl,k⟩:=D ex s p q;simp only [ExR] at h1;subst h1;obtain ⟨b,d⟩:=k n ι0 f w0 g w' h2;exact ih p h b g w' d
   | inr l=>
    obtain ⟨o,C,k,F⟩:=A ex s l q;simp only [af] at h;subst h;obtain ⟨b,d,u⟩:=k.post h2 h1 F;refine (?_:Post n ι0 w0 (λex s=>ex=(out l).1/\s=(out l).2) e g w'->_) ⟨ex,_,b,d,u,C,rfl⟩;cases ex with
    | normal=>exact absurd rfl o
    | exit i=>simp only [ExR] at h1;subst h1;exact λh=>h
    | ret=>simp only [ExR] at h1;subst h1;exact λh=>h
    | pan v=>obtain ⟨_,rfl,_⟩:=h1;exact λh=>h
def SemC.weak{n:Nat}{c:Code}{s C:St}{E:Ex->St->Prop}(h:Weak s C)(F:SemC P n c C E):SemC P n c s E:=by
 intro ι0 w0 ι a w J;obtain⟨A,G⟩:=h n ι0 ι w0 a w J;exact F ι0 w0 A a w G
def SemC.mono{n:Nat}{c:Code}{s:St}{A C:Ex->St->Prop}(h:SemC P n c s A)(hi:∀ex s,A ex s->C ex s):SemC P n c s C:=
 λι0 w0 ι a w E=>pC (λ_ _ _ ⟨ex,s,ι,h1,h2,F⟩=>⟨ex,s,ι,h1,h2,hi ex s F⟩) (h ι0 w0 ι a w E)
def subE{X Y:Type}(m:Nat)(rd:St->Option X)(f:X->Option Y)(a:(α:Type)->Y->(Ex->St->Option α)->Option α):Sub:=
 ⟨m,λα s k=>ob (rd s) λx=>ob (f x) λy=>a α y k⟩
def CZ{α X Y:Type}{n m:Nat}{c:Code}{rd:St->Option X}{f:X->Option Y}{a:(α:Type)->Y->(Ex->St->Option α)->Option α}{out:Y->Ex×St}(j:∀α y k,a α y k=k (out y).1 (out y).2){emb:X->St}(b:∀s x,rd s=some x->Weak s (emb x))
  (l:∀x y,f x=some y->SemC P n c (emb x) λex s=>ex=(out y).1/\s=(out y).2) {s:St} {k:Ex->St->Option α} {z:α} (h:(subE m rd f a).e α s k=some z):
  SemC P n c s λex i=>k ex i=some z:=by
 simp only[subE]at h;obtain⟨x,h1,h⟩:=ah h;obtain⟨y,h2,h⟩:=ah h;rw[j]at h;exact SemC.weak (b s x h1) ((l x y h2).mono λex s ⟨g,d⟩=>by rw[g,d];exact h)
def retX{R:Type}(a:V->Option R):Bool->V->St->Option R
 | false,v,_=>cond (V.flat v) (a v) none
 | true,_,_=>none
def Gi{R:Type}{j:V->Option R}{enc:R->V}(g:∀v r,j v=some r->v=enc r){E:List Ent}(y:∀x∈E,cN P x){L:List Sub}{f:Nat}{fn:Func}{c:Code}{ac:AC}
  (A:P.funcs[f]?=some fn) (o:fn.body=some c) (hc:ac.code=c) (m:gi P fn.ntmps L ac) {args:List V} {r:R} (t:Nat.ble args.length fn.ntmps=true)
  (h:run P E L fn.ntmps ac ⟨nZ args 0,[],0,0,0,0⟩ (finK P fn.results.toList (retX j))=some r):il P f args (enc r):=by
 intro w n p z;refine(EF y A o hc m t h dY w n (WR.nothing w) (λ_ _ h=>by cases h) (p.mono λb q h=>by have:=lI h;cases this) z).mono λe w' ⟨pan,u,s,ι,h1,_,_,_,_,k,d⟩=>?_;cases pan with
 | true=>cases h1
 | false=>
  simp only[retX]at h1;obtain⟨a,h1⟩:=bR h1;have l:=g u r h1;subst l;cases e with
  | returned x=>exact⟨x,rfl,VR.flat _ _ a d.2,Fv k⟩
  | panicked i=>exact absurd d.1 (by simp)
  | outgrown=>exact d.elim
def yu{A R:Type}(f:Nat)(b:List V->Option A)(sh:A->Option R)(enc:R->V):Ent:=
 ⟨f,λ_ args _ _ k=>ob (b args) λa=>ob (sh a) λr=>k { val:=enc r }⟩
def o6{A R:Type}{f:Nat}{j:List V->Option A}{sh:A->Option R}{enc:R->V}{arg:A->List V}(b:gj P f)(i:∀l a,j l=some a->l=arg a)
  (g:∀a,V.flats (arg a)=true) (h:∀a r,sh a=some r->il P f (arg a) (enc r)):cN P (yu f j sh enc):=by
 intro α args H fr k z e;simp only[yu]at e;obtain⟨a,h1,c⟩:=ah e;obtain⟨r,h2,d⟩:=ah c;clear e c;have:=i args a h1;subst this;exact⟨_,d,λm _=>.inl ⟨b,(h a r h2).call (g a) m fr⟩⟩
def subs:AC->List (Nat×AC)
 | .seq a b | .cond _ a b=>subs a++subs b
 | .block _ a | .loop a | .scope a=>subs a
 | .sub m c=>[(m,c)]
 | _=>[]
def getS:List (Nat×AC)->Nat->AC
 | [],_=>.skip
 | (k,c)::l,m=>cond (Nat.beq k m) c (getS l m)
def AC.body:AC->AC
 | .loop c=>c
 | c=>c
def NI(P:Program)(n:Nat)(L:List Sub)(m:Nat)(c:AC):Prop:=
 ∀(α:Type) (s:St) (k:Ex->St->Option α) (z:α),CS α m s k L=some z->SemC P n c.code s λex a=>k ex a=some z
def jK{n:Nat}{L:List Sub}:∀(c:AC),(∀p∈subs c,NI P n L p.1 p.2)->gi P n L c
 | .seq a b,h=>⟨jK a λp d=>h p (by simp[subs,d]),jK b λp d=>h p (by simp[subs,d])⟩
 | .cond c a b,h=>⟨jK a λp d=>h p (by simp[subs,d]),jK b λp d=>h p (by simp[subs,d])⟩
 | .block _ a,h=>by simp only[gi];exact jK a λp d=>h p (by simp[subs,d])
 | .loop a,h=>by simp only[gi];exact jK a λp d=>h p (by simp[subs,d])
 | .scope a,h=>by simp only[gi];exact jK a λp d=>h p (by simp[subs,d])
 | .sub m c,h=>h (m,c) (by simp[subs])
 | .skip,_ | .ret,_ | .exit _,_ | .reg _ _,_ | .draw _ _,_ | .bad _,_ | .label _,_=>by simp[gi]
def qW(f:Func):Code:=match f.body with | some c=>c | none=>.skip
def acOf(f:Func):AC:=(ot (qW f) 0).1
def je(l:List Nat):AC->AC
 | .seq a b=>.seq (je l a) (je l b)
 | .cond c a b=>.cond c (je l a) (je l b)
 | .block id a=>.block id (je l a)
 | .loop a=>.loop (je l a)
 | .scope a=>.scope (je l a)
 | .sub m c=>cond (l.any (Nat.beq m)) (je l c) (.sub m (je l c))
 | c=>c
def eT(l:List Nat):∀c:AC,(je l c).code=c.code
 | .seq a b=>by simp[je,AC.code,eT l a,eT l b]
 | .cond c a b=>by simp[je,AC.code,eT l a,eT l b]
 | .block id a=>by simp[je,AC.code,eT l a]
 | .loop a=>by simp[je,AC.code,eT l a]
 | .scope a=>by simp[je,AC.code,eT l a]
 | .sub m c=>by
  simp only[je];cases l.any (Nat.beq m)<;>simp[AC.code,eT l c]
 | .skip | .ret | .exit _ | .reg _ _ | .draw _ _ | .bad _ | .label _=>rfl
def acU(l:List Nat)(f:Func):AC:=je l (acOf f)
def yy(f:Func):(acOf f).code=qW f:=gU _ _
def AO(l:List Nat)(f:Func):(acU l f).code=qW f:=(eT l _).trans (yy f)
end Go.Abs
