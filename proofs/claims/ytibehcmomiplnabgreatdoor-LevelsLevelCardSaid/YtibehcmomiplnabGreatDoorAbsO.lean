
import Derived.Test.YtibehcmomiplnabGreatDoorAbsK
set_option linter.unusedSimpArgs false
set_option linter.unusedVariables false
set_option linter.defProp false
namespace Go.Abs
variable {P:Program}
mutual
def V.lt(nb:Nat):V->Bool
 | .p c _ | .sl c _ _ _ | .pr _ c _ _ | .ws c | .rs _ c _ _ _ | .mp c=>Nat.blt c nb
 | .fn _ l | .ag l | .tp l=>V.lts nb l
 | .it _ v=>V.lt nb v
 | .b _ | .i _ _ | .s _ | .pn | .sn | .nf | .ni | .ai _ _ _ | .unk=>true
def V.lts(nb:Nat):List V->Bool
 | []=>true
 | v::l=>V.lt nb v&&V.lts nb l
end
def Blk.lt(nb:Nat):Blk->Bool
 | .cells l=>V.lts nb l
 | _=>true
def Ug{α:Type}(nb:Nat)(H:List (Nat×Blk)):List Nat->(List (Nat×Blk)->Option α)->Option α
 | [],k=>k []
 | b::l,k=>match look H b with
  | some blk=>match Blk.lt nb blk&&Nat.blt b nb with
   | true=>Ug nb H l λm=>k ((b,blk)::m)
   | false=>none
  | none=>none
inductive Fix where
 | nilT (t g:Nat) (tr:List Lf)
 | nilH (b i g:Nat) (tr:List Lf)
 | rsT (t:Nat)
 | rsH (b i:Nat)
def fixK{α:Type}(f:Fix)(s:St)(k:St->Option α):Option α:=
 match f with
 | .nilT t g tr=>match look s.T t with
  | some (some .sn)=>match Nat.ble s.nb g with
   | true=>k { T:=(t,some (.ws g))::s.T,H:=(g,.rows tr [])::s.H,nb:=g+1,lo:=s.lo,ro:=s.ro,rb:=s.rb }
   | false=>none
  | some (some (.ws _))=>k s
  | _=>none
 | .nilH b i g tr=>match look s.H b with
  | some (.cells l)=>match l[i]? with
   | some .sn=>match Nat.ble s.nb g with
    | true=>k { T:=s.T,H:=(b,.cells (l.set i (.ws g)))::(g,.rows tr [])::s.H,nb:=g+1,lo:=s.lo,ro:=s.ro,rb:=s.rb }
    | false=>none
   | some (.ws _)=>k s
   | _=>none
  | _=>none
 | .rsT t=>match look s.T t with
  | some (some (.ws c))=>match look s.H c with
   | some (.rows tr l)=>k { T:=(t,some (.rs tr.length c 0 l.length none))::s.T,H:=s.H,nb:=s.nb,lo:=s.lo,ro:=s.ro,rb:=s.rb }
   | _=>none
  | some (some (.rs z c j n (some _)))=>k { T:=(t,some (.rs z c j n none))::s.T,H:=s.H,nb:=s.nb,lo:=s.lo,ro:=s.ro,rb:=s.rb }
  | some (some (.rs _ _ _ _ none))=>k s
  | _=>none
 | .rsH b i=>match look s.H b with
  | some (.cells l)=>match l[i]? with
   | some (.ws c)=>match look s.H c with
    | some (.rows tr m)=>k { T:=s.T,H:=(b,.cells (l.set i (.rs tr.length c 0 m.length none)))::s.H,nb:=s.nb,lo:=s.lo,ro:=s.ro,rb:=s.rb }
    | _=>none
   | some (.rs z c j n (some _))=>k { T:=s.T,H:=(b,.cells (l.set i (.rs z c j n none)))::s.H,nb:=s.nb,lo:=s.lo,ro:=s.ro,rb:=s.rb }
   | some (.rs _ _ _ _ none)=>k s
   | _=>none
  | _=>none
def JO{α:Type}:List Fix->St->(St->Option α)->Option α
 | [],s,k=>k s
 | f::l,s,k=>fixK f s λs=>JO l s k
def KI{α:Type}{nb:Nat}{H:List (Nat×Blk)}:∀{l:List Nat} {k:List (Nat×Blk)->Option α} {z:α},Ug nb H l k=some z->
  ∃d,k d=some z/\∀b blk,look d b=some blk->look H b=some blk/\Blk.lt nb blk=true/\b<nb
 | [],k,z,h=>⟨[],h,λt v h=>by cases h⟩
 | b::l,k,z,h=>by
  simp only[Ug]at h;split at h
  ·rename_i blk f;split at h
   ·rename_i a;simp only[aD]at a;obtain⟨d,g,i⟩:=KI h;refine⟨_,g,λc x hc=>?_⟩;rw[bh]at hc;split at hc
    ·rename_i e;subst e;simp only[aw]at hc;subst hc;exact⟨f,a.1,aR a.2⟩
    ·exact i c x hc
   ·cases h
  ·cases h
def Weak(s s':St):Prop:=∀(n:Nat) (ι0 ι:Inj) (w0:Base) (a:Act) (w:World),Inv n ι0 w0 ι s a w->∃b,Inv n ι0 w0 b s' a w
def Weak.refl(s:St):Weak s s:=λ_ _ ι _ _ _ h=>⟨ι,h⟩
def Weak.trans{a b c:St}(h:Weak a b)(E:Weak b c):Weak a c:=λn ι0 ι w0 ac w C=>
 let⟨ι1,h1⟩:=h n ι0 ι w0 ac w C
 E n ι0 ι1 w0 ac w h1
def Inv.phantom{n:Nat}{ι0 ι:Inj}{w0:Base}{s:St}{a:Act}{w:World}(C:Inv n ι0 w0 ι s a w){g:Nat}(E:s.nb<=g)(tr:List Lf):
  Inv n ι0 w0 (upd ι g none) { T:=s.T,H:=(g,.rows tr [])::s.H,nb:=g+1,lo:=s.lo,ro:=s.ro,rb:=s.rb } a w:=
 C.phantom' (C.fresh g E) (by omega) (Nat.lt_succ_self g) tr
def Inv.setT{n:Nat}{ι0 ι:Inj}{w0:Base}{s:St}{a:Act}{w:World}(C:Inv n ι0 w0 ι s a w){t:Nat}{u v:V}(E:look s.T t=some (some u))(F:∀x,VR ι u x->VR ι v x):
  Inv n ι0 w0 ι { T:=(t,some v)::s.T,H:=s.H,nb:=s.nb,lo:=s.lo,ro:=s.ro,rb:=s.rb } a w:=by
 refine⟨C.size,C.defers,λG J h=>?_,C.mem,C.ext,C.new,C.fr,C.low,C.fz,C.gl⟩;rw[bh]at h;split at h
 ·rename_i e;subst e;simp only[aw]at h;subst h;obtain⟨x,O,Q⟩:=C.tmps t u E;exact⟨x,O,F x Q⟩
 ·exact C.tmps G J h
def Inv.setH{n:Nat}{ι0 ι:Inj}{w0:Base}{s:St}{a:Act}{w:World}(C:Inv n ι0 w0 ι s a w){b i:Nat}{l:List V}{u v:V}(O:look s.H b=some (.cells l))(hi:l[i]?=some u)(Q:∀x,VR ι u x->VR ι v x):
  Inv n ι0 w0 ι { T:=s.T,H:=(b,.cells (l.set i v))::s.H,nb:=s.nb,lo:=s.lo,ro:=s.ro,rb:=s.rb } a w:=by
 refine⟨C.size,C.defers,C.tmps,⟨C.mem.inj,C.mem.low,C.mem.dom,λc y h Y=>?_⟩,C.ext,C.new,C.fr,C.low,C.fz,C.gl⟩;rw[bh]at h;split at h
 ·rename_i e;subst e;simp only[aw]at h;subst h;obtain⟨q,F,e,fr,W,X,G,J⟩:=uh C.mem O;refine .inl ⟨q,_,W,X,F,e,fr,rfl,?_,J⟩;obtain⟨x,hx,E⟩:=G.get hi;have:=G.set i (Q x E);rwa[show F.toList.set i x=F.toList from by
   apply CS;intro j;rw[List.getElem?_set];split
   ·rename_i e;subst e;split
    ·exact hx.symm
    ·rename_i U;rw[gS (by omega)]at hx;cases hx
   ·rfl]at this
 ·exact C.mem.blk c y h Y
def Zo{ι:Inj}{H:List (Nat×Blk)}{nb c:Nat}{w:World}(h:WR ι H nb w){t:List Lf}{l:List (den t)}(d:look H c=some (.rows t l)):∀x,VR ι (.ws c) x->VR ι (.rs t.length c 0 l.length none) x:=by
 intro x hx;simp only[VR]at hx ⊢;rcases kM h d with⟨q,n,j,fr,b,m,f,i,_⟩ | ⟨b,rfl⟩
 ·rcases hx with⟨e,a,rfl⟩ | ⟨a,_⟩
  ·rw[a]at b;cases b;exact .inl ⟨q,q.k,q.o,a,⟨by omega,lY⟩,λ_=>by omega,by rw[f]⟩
  ·rw[a]at b;cases b
 ·rcases hx with⟨e,a,_⟩ | ⟨a,g,rfl⟩
  ·rw[a]at b;cases b
  ·exact .inr ⟨a,⟨rfl,lY⟩,g,rfl⟩
def U7{ι:Inj}{z c j n m:Nat}:∀x,VR ι (.rs z c j n (some m)) x->VR ι (.rs z c j n none) x:=by
 intro x hx;simp only[VR]at hx ⊢;rcases hx with⟨q,cp,o,a,d,b⟩ | ⟨a,d,b⟩
 ·exact .inl ⟨q,cp,o,a,⟨d.1,lY⟩,b⟩
 ·exact .inr ⟨a,⟨d.1,lY⟩,b⟩
def Xq{α:Type}{f:Fix}{s:St}{k:St->Option α}{z:α}(h:fixK f s k=some z):∃s',k s'=some z/\Weak s s':=by
 unfold fixK at h;split at h
 ·rename_i t g tr;split at h
  ·rename_i p;split at h
   case h_2=>cases h
   rename_i o;have o:=aR o;refine⟨_,h,λn ι0 ι w0 a w d=>⟨upd ι g none,?_⟩⟩;refine(d.phantom o tr).setT (u:=.sn) p λx hx=>?_;simp only[VR]at hx ⊢;exact .inr ⟨ek _ _ _,none,hx⟩
  ·exact⟨s,h,Weak.refl s⟩
  ·cases h
 ·rename_i b i g tr;split at h
  case h_2=>cases h
  rename_i l e;split at h
  ·rename_i hi;split at h
   case h_2=>cases h
   rename_i o;have o:=aR o;refine⟨_,h,λn ι0 ι w0 a w d=>⟨upd ι g none,?_⟩⟩;have r:b≠g:=by
    rintro rfl;obtain⟨q,_,_,_,v,_⟩:=uh d.mem e;have:=d.mem.low b _ v;omega
   refine(d.phantom o tr).setH (u:=.sn) (by simp only[bh];rw[ab (Ne.symm r)];exact e) hi λx hx=>?_;simp only[VR]at hx ⊢;exact .inr ⟨ek _ _ _,none,hx⟩
  ·exact⟨s,h,Weak.refl s⟩
  ·cases h
 ·rename_i t;split at h
  ·rename_i c p;split at h
   case h_2=>cases h
   rename_i tr l e;exact⟨_,h,λn ι0 ι w0 a w d=>⟨ι,d.setT p (Zo d.mem e)⟩⟩
  ·rename_i z c j n m p;exact⟨_,h,λn ι0 ι w0 a w d=>⟨ι,d.setT p U7⟩⟩
  ·exact⟨s,h,Weak.refl s⟩
  ·cases h
 ·rename_i b i;split at h
  case h_2=>cases h
  rename_i l e;split at h
  ·rename_i c hi;split at h
   case h_2=>cases h
   rename_i tr m hc;exact⟨_,h,λn ι0 ι w0 a w d=>⟨ι,d.setH e hi (Zo d.mem hc)⟩⟩
  ·rename_i z c j n m' hi;exact⟨_,h,λn ι0 ι w0 a w d=>⟨ι,d.setH e hi U7⟩⟩
  ·exact⟨s,h,Weak.refl s⟩
  ·cases h
def FC{α:Type}:∀{l:List Fix} {s:St} {k:St->Option α} {z:α},JO l s k=some z->∃s',k s'=some z/\Weak s s'
 | [],s,k,z,h=>⟨s,h,Weak.refl s⟩
 | f::l,s,k,z,h=>by
  simp only[JO]at h;obtain⟨g,d,e⟩:=Xq h;obtain⟨b,a,c⟩:=FC d;exact⟨b,a,e.trans c⟩
def av{X Y:Type}(step:X->Option (X⊕Y)):Nat->X->Option Y
 | 0,_=>none
 | n+1,x=>match step x with
  | some (.inl a)=>av step n a
  | some (.inr y)=>some y
  | none=>none
def Weak.post{s s':St}(h:Weak s s'){n:Nat}{ι0 ι:Inj}{w0:Base}{a:Act}{w:World}(F:Inv n ι0 w0 ι s a w){ex:Ex}{e:Exit}(E:ExR ι ex e)
  (J:∀v,ex=.pan v->V.flat v=true):∃C,ExR C ex e/\Inv n ι0 w0 C s' a w:=by
 obtain⟨C,G⟩:=h n ι0 ι w0 a w F;refine⟨C,?_,G⟩;cases ex with
 | pan v=>
  obtain⟨x,rfl,hx⟩:=E;exact⟨x,rfl,VR.flat v x (J v rfl) hx⟩
 | _=>exact E
def XS {X Y:Type} {E:List Ent} (F:∀x∈E,gV P x) {L:List Sub} {n:Nat} {c:AC} (C:ln P n L c) {emb:X->St} {out:Y->Ex×St} {step:X->Option (X⊕Y)} {rd:Ex->St->Option (X⊕Y)}
  (hx:∀ex s x,rd ex s=some (.inl x)->ex=.normal/\Weak s (emb x)) (hy:∀ex s y,rd ex s=some (.inr y)->ex≠.normal/\ex=(out y).1/\Weak s (out y).2/\∀v,ex=.pan v->V.flat v=true)
  (A:∀x,run P E L n c (emb x) rd=step x):∀(m:Nat) (x:X) (y:Y),av step m x=some y->
   SemC P n (.loop c.code) (emb x) λex s=>ex=(out y).1/\s=(out y).2:=by
 intro m x y h ι0 w0 ι a w z;refine wp_loop_rounds m ?_
 induction m generalizing x ι a w with
 | zero=>cases h
 | succ m ih=>
  rw [rounds_succ];simp only [av] at h;cases hs:step x with
  | none=>rw [hs] at h;cases h
  | some r=>
   rw [hs] at h;refine wh ?_ (rF F c _ _ r C (by rw [A x];exact hs) ι0 w0 ι a w z);rintro e g w' ⟨ex,s,l,b,t,p⟩;cases r with
   | inl q=>
    obtain ⟨rfl,k⟩:=hx ex s q p;simp only [ExR] at b;subst b;obtain ⟨d,j⟩:=k n ι0 l w0 g w' t;exact ih q h d g w' j
   | inr o=>
    obtain ⟨f,D,k,u⟩:=hy ex s o p;simp only [aw] at h;subst h;obtain ⟨d,j,B⟩:=k.post t b u;refine (?_:Post n ι0 w0 (λex s=>ex=(out o).1/\s=(out o).2) e g w'->_) ⟨ex,_,d,j,B,D,rfl⟩;cases ex with
    | normal=>exact absurd rfl f
    | exit i=>simp only [ExR] at b;subst b;exact λh=>h
    | ret=>simp only [ExR] at b;subst b;exact λh=>h
    | pan v=>obtain ⟨_,rfl,_⟩:=b;exact λh=>h
def SemC.weak{n:Nat}{c:Code}{s s':St}{E:Ex->St->Prop}(h:Weak s s')(J:SemC P n c s' E):SemC P n c s E:=by
 intro ι0 w0 ι a w F;obtain⟨C,G⟩:=h n ι0 ι w0 a w F;exact J ι0 w0 C a w G
def SemC.mono{n:Nat}{c:Code}{s:St}{C E:Ex->St->Prop}(h:SemC P n c s C)(hi:∀ex s,C ex s->E ex s):SemC P n c s E:=
 λι0 w0 ι a w F=>wh (λ_ _ _ ⟨ex,s,ι,J,O,G⟩=>⟨ex,s,ι,J,O,hi ex s G⟩) (h ι0 w0 ι a w F)
def subE{X Y:Type}(m:Nat)(rd:St->Option X)(f:X->Option Y)(a:(α:Type)->Y->(Ex->St->Option α)->Option α):Sub:=
 ⟨m,λα s k=>ob (rd s) λx=>ob (f x) λy=>a α y k⟩
def RA{α X Y:Type}{n m:Nat}{c:Code}{rd:St->Option X}{f:X->Option Y}{a:(α:Type)->Y->(Ex->St->Option α)->Option α}{out:Y->Ex×St}(d:∀α y k,a α y k=k (out y).1 (out y).2){emb:X->St}(b:∀s x,rd s=some x->Weak s (emb x))
  (g:∀x y,f x=some y->SemC P n c (emb x) λex s=>ex=(out y).1/\s=(out y).2) {s:St} {k:Ex->St->Option α} {z:α} (h:(subE m rd f a).e α s k=some z):
  SemC P n c s λex s'=>k ex s'=some z:=by
 simp only[subE]at h;obtain⟨x,j,h⟩:=ax h;obtain⟨y,l,h⟩:=ax h;rw[d]at h;exact SemC.weak (b s x j) ((g x y l).mono λex s ⟨o,i⟩=>by rw[o,i];exact h)
def retX{R:Type}(a:V->Option R):Bool->V->St->Option R
 | false,v,_=>cond (V.flat v) (a v) none
 | true,_,_=>none
def RX{R:Type}{k:V->Option R}{enc:R->V}(j:∀v r,k v=some r->v=enc r){E:List Ent}(A:∀x∈E,gV P x){L:List Sub}{f:Nat}{fn:Func}{c:Code}{ac:AC}
  (l:P.funcs[f]?=some fn) (m:fn.body=some c) (hc:ac.code=c) (p:ln P fn.ntmps L ac) {args:List V} {r:R} (o:Nat.ble args.length fn.ntmps=true)
  (h:run P E L fn.ntmps ac ⟨vp args 0,[],0,0,0,0⟩ (finK P fn.results.toList (retX k))=some r):oP P f args (enc r):=by
 intro w y n hx;refine(NQ A l m hc p o h iI w y (WR.nothing w) (λ_ _ h=>by cases h) (n.mono λb q h=>by have:=sG h;cases this) hx).mono λe w' ⟨pan,u,s,ι,a,_,_,_,_,t,i⟩=>?_;cases pan with
 | true=>cases a
 | false=>
  simp only[retX]at a;obtain⟨d,a⟩:=eV a;have z:=j u r a;subst z;cases e with
  | returned x=>exact⟨x,rfl,VR.flat _ _ d i.2,Po t⟩
  | panicked g=>exact absurd i.1 (by simp)
  | outgrown=>exact i.elim
def Gh{A R:Type}(f:Nat)(b:List V->Option A)(sh:A->Option R)(enc:R->V):Ent:=
 ⟨f,λ_ args _ _ k=>ob (b args) λa=>ob (sh a) λr=>k { val:=enc r }⟩
def wy{A R:Type}{f:Nat}{j:List V->Option A}{sh:A->Option R}{enc:R->V}{arg:A->List V}(b:mA P f)(i:∀l a,j l=some a->l=arg a)
  (d:∀a,V.flats (arg a)=true) (h:∀a r,sh a=some r->oP P f (arg a) (enc r)):gV P (Gh f j sh enc):=by
 intro α args H fr k z e;simp only[Gh]at e;obtain⟨a,n,c⟩:=ax e;obtain⟨r,o,g⟩:=ax c;clear e c;have:=i args a n;subst this;exact⟨_,g,λm _=>.inl ⟨b,(h a r o).call (d a) m fr⟩⟩
def subs:AC->List (Nat×AC)
 | .seq a b | .cond _ a b=>subs a++subs b
 | .block _ a | .loop a | .scope a=>subs a
 | .sub m c=>[(m,c)]
 | _=>[]
def getS:List (Nat×AC)->Nat->AC
 | [],_=>.skip
 | (k,c)::l,m=>cond (Nat.beq k m) c (getS l m)
def AC.body:AC->AC
 | .loop c=>c
 | c=>c
def aca(P:Program)(n:Nat)(L:List Sub)(m:Nat)(c:AC):Prop:=
 ∀(α:Type) (s:St) (k:Ex->St->Option α) (z:α),MG α m s k L=some z->SemC P n c.code s λex s'=>k ex s'=some z
def pE{n:Nat}{L:List Sub}:∀(c:AC),(∀p∈subs c,aca P n L p.1 p.2)->ln P n L c
 | .seq a b,h=>⟨pE a λp hp=>h p (by simp[subs,hp]),pE b λp hp=>h p (by simp[subs,hp])⟩
 | .cond c a b,h=>⟨pE a λp hp=>h p (by simp[subs,hp]),pE b λp hp=>h p (by simp[subs,hp])⟩
 | .block _ a,h=>by simp only[ln];exact pE a λp hp=>h p (by simp[subs,hp])
 | .loop a,h=>by simp only[ln];exact pE a λp hp=>h p (by simp[subs,hp])
 | .scope a,h=>by simp only[ln];exact pE a λp hp=>h p (by simp[subs,hp])
 | .sub m c,h=>h (m,c) (by simp[subs])
 | .skip,_ | .ret,_ | .exit _,_ | .reg _ _,_ | .draw _ _,_ | .bad _,_ | .label _,_=>by simp[ln]
def xR(f:Func):Code:=match f.body with | some c=>c | none=>.skip
def acOf(f:Func):AC:=(vn (xR f) 0).1
def om(l:List Nat):AC->AC
 | .seq a b=>.seq (om l a) (om l b)
 | .cond c a b=>.cond c (om l a) (om l b)
 | .block id a=>.block id (om l a)
 | .loop a=>.loop (om l a)
 | .scope a=>.scope (om l a)
 | .sub m c=>cond (l.any (Nat.beq m)) (om l c) (.sub m (om l c))
 | c=>c
def js(l:List Nat):∀c:AC,(om l c).code=c.code
 | .seq a b=>by simp[om,AC.code,js l a,js l b]
 | .cond c a b=>by simp[om,AC.code,js l a,js l b]
 | .block id a=>by simp[om,AC.code,js l a]
 | .loop a=>by simp[om,AC.code,js l a]
 | .scope a=>by simp[om,AC.code,js l a]
 | .sub m c=>by
  simp only[om];cases l.any (Nat.beq m)<;>simp[AC.code,js l c]
 | .skip | .ret | .exit _ | .reg _ _ | .draw _ _ | .bad _ | .label _=>rfl
def acU(l:List Nat)(f:Func):AC:=om l (acOf f)
def HB(f:Func):(acOf f).code=xR f:=l7 _ _
def K0(l:List Nat)(f:Func):(acU l f).code=xR f:=(js l _).trans (HB f)
end Go.Abs
