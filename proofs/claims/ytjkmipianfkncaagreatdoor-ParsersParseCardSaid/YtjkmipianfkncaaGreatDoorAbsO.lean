
import Derived.Test.YtjkmipianfkncaaGreatDoorAbsK
set_option linter.unusedSimpArgs false
set_option linter.unusedVariables false
set_option linter.defProp false
namespace Go.Abs
variable {P:Program}
mutual
def V.lt(nb:Nat):V->Bool
 | .p c _ | .sl c _ _ _ | .pr _ c _ _ | .ws c | .rs _ c _ _ _ | .mp c=>Nat.blt c nb
 | .fn _ l | .ag l | .tp l=>V.lts nb l
 | .it _ v=>V.lt nb v
 | .b _ | .i _ _ | .s _ | .pn | .sn | .nf | .ni | .ai _ _ _ | .unk=>true
def V.lts(nb:Nat):List V->Bool
 | []=>true
 | v::l=>V.lt nb v&&V.lts nb l
end
def Blk.lt(nb:Nat):Blk->Bool
 | .cells l=>V.lts nb l
 | _=>true
def NK{α:Type}(nb:Nat)(H:List (Nat×Blk)):List Nat->(List (Nat×Blk)->Option α)->Option α
 | [],k=>k []
 | b::l,k=>match look H b with
  | some blk=>match Blk.lt nb blk&&Nat.blt b nb with
   | true=>NK nb H l λm=>k ((b,blk)::m)
   | false=>none
  | none=>none
inductive Fix where
 | nilT (t g:Nat) (tr:List Lf)
 | nilH (b i g:Nat) (tr:List Lf)
 | rsT (t:Nat)
 | rsH (b i:Nat)
def fixK{α:Type}(f:Fix)(s:St)(k:St->Option α):Option α:=
 match f with
 | .nilT t g tr=>match look s.T t with
  | some (some .sn)=>match Nat.ble s.nb g with
   | true=>k { T:=(t,some (.ws g))::s.T,H:=(g,.rows tr [])::s.H,nb:=g+1,lo:=s.lo,ro:=s.ro,rb:=s.rb }
   | false=>none
  | some (some (.ws _))=>k s
  | _=>none
 | .nilH b i g tr=>match look s.H b with
  | some (.cells l)=>match l[i]? with
   | some .sn=>match Nat.ble s.nb g with
    | true=>k { T:=s.T,H:=(b,.cells (l.set i (.ws g)))::(g,.rows tr [])::s.H,nb:=g+1,lo:=s.lo,ro:=s.ro,rb:=s.rb }
    | false=>none
   | some (.ws _)=>k s
   | _=>none
  | _=>none
 | .rsT t=>match look s.T t with
  | some (some (.ws c))=>match look s.H c with
   | some (.rows tr l)=>k { T:=(t,some (.rs tr.length c 0 l.length none))::s.T,H:=s.H,nb:=s.nb,lo:=s.lo,ro:=s.ro,rb:=s.rb }
   | _=>none
  | some (some (.rs z c j n (some _)))=>k { T:=(t,some (.rs z c j n none))::s.T,H:=s.H,nb:=s.nb,lo:=s.lo,ro:=s.ro,rb:=s.rb }
  | some (some (.rs _ _ _ _ none))=>k s
  | _=>none
 | .rsH b i=>match look s.H b with
  | some (.cells l)=>match l[i]? with
   | some (.ws c)=>match look s.H c with
    | some (.rows tr m)=>k { T:=s.T,H:=(b,.cells (l.set i (.rs tr.length c 0 m.length none)))::s.H,nb:=s.nb,lo:=s.lo,ro:=s.ro,rb:=s.rb }
    | _=>none
   | some (.rs z c j n (some _))=>k { T:=s.T,H:=(b,.cells (l.set i (.rs z c j n none)))::s.H,nb:=s.nb,lo:=s.lo,ro:=s.ro,rb:=s.rb }
   | some (.rs _ _ _ _ none)=>k s
   | _=>none
  | _=>none
def Gt{α:Type}:List Fix->St->(St->Option α)->Option α
 | [],s,k=>k s
 | f::l,s,k=>fixK f s λs=>Gt l s k
def FG{α:Type}{nb:Nat}{H:List (Nat×Blk)}:∀{l:List Nat} {k:List (Nat×Blk)->Option α} {z:α},NK nb H l k=some z->
  ∃d,k d=some z/\∀b blk,look d b=some blk->look H b=some blk/\Blk.lt nb blk=true/\b<nb
 | [],k,z,h=>⟨[],h,λt v h=>by cases h⟩
 | b::l,k,z,h=>by
  simp only[NK]at h;split at h
  ·rename_i blk i;split at h
   ·rename_i a;simp only[aB]at a;obtain⟨d,g,f⟩:=FG h;refine⟨_,g,λc x hc=>?_⟩;rw[aR]at hc;split at hc
    ·rename_i e;subst e;simp only[ar]at hc;subst hc;exact⟨i,a.1,aG a.2⟩
    ·exact f c x hc
   ·cases h
  ·cases h
def Weak(s s':St):Prop:=∀(n:Nat) (ι0 ι:Inj) (w0:Base) (a:Act) (w:World),Inv n ι0 w0 ι s a w->∃b,Inv n ι0 w0 b s' a w
def Weak.refl(s:St):Weak s s:=λ_ _ ι _ _ _ h=>⟨ι,h⟩
def Weak.trans{a b c:St}(h:Weak a b)(E:Weak b c):Weak a c:=λn ι0 ι w0 ac w C=>
 let⟨ι1,h1⟩:=h n ι0 ι w0 ac w C
 E n ι0 ι1 w0 ac w h1
def Inv.phantom{n:Nat}{ι0 ι:Inj}{w0:Base}{s:St}{a:Act}{w:World}(C:Inv n ι0 w0 ι s a w){g:Nat}(E:s.nb<=g)(tr:List Lf):
  Inv n ι0 w0 (upd ι g none) { T:=s.T,H:=(g,.rows tr [])::s.H,nb:=g+1,lo:=s.lo,ro:=s.ro,rb:=s.rb } a w:=
 C.phantom' (C.fresh g E) (by omega) (Nat.lt_succ_self g) tr
def Inv.setT{n:Nat}{ι0 ι:Inj}{w0:Base}{s:St}{a:Act}{w:World}(C:Inv n ι0 w0 ι s a w){t:Nat}{u v:V}(E:look s.T t=some (some u))(Q:∀x,VR ι u x->VR ι v x):
  Inv n ι0 w0 ι { T:=(t,some v)::s.T,H:=s.H,nb:=s.nb,lo:=s.lo,ro:=s.ro,rb:=s.rb } a w:=by
 refine⟨C.size,C.defers,λG O h=>?_,C.mem,C.ext,C.new,C.fr,C.low,C.fz,C.gl⟩;rw[aR]at h;split at h
 ·rename_i e;subst e;simp only[ar]at h;subst h;obtain⟨x,J,F⟩:=C.tmps t u E;exact⟨x,J,Q x F⟩
 ·exact C.tmps G O h
def Inv.setH{n:Nat}{ι0 ι:Inj}{w0:Base}{s:St}{a:Act}{w:World}(C:Inv n ι0 w0 ι s a w){b i:Nat}{l:List V}{u v:V}(J:look s.H b=some (.cells l))(hi:l[i]?=some u)(X:∀x,VR ι u x->VR ι v x):
  Inv n ι0 w0 ι { T:=s.T,H:=(b,.cells (l.set i v))::s.H,nb:=s.nb,lo:=s.lo,ro:=s.ro,rb:=s.rb } a w:=by
 refine⟨C.size,C.defers,C.tmps,⟨C.mem.inj,C.mem.low,C.mem.dom,λc y h hd=>?_⟩,C.ext,C.new,C.fr,C.low,C.fz,C.gl⟩;rw[aR]at h;split at h
 ·rename_i e;subst e;simp only[ar]at h;subst h;obtain⟨q,E,e,fr,W,O,G,U⟩:=pM C.mem J;refine .inl ⟨q,_,W,O,E,e,fr,rfl,?_,U⟩;obtain⟨x,hx,F⟩:=G.get hi;have:=G.set i (X x F);rwa[show E.toList.set i x=E.toList from by
   apply CO;intro j;rw[List.getElem?_set];split
   ·rename_i e;subst e;split
    ·exact hx.symm
    ·rename_i Q;rw[gC (by omega)]at hx;cases hx
   ·rfl]at this
 ·exact C.mem.blk c y h hd
def TQ{ι:Inj}{H:List (Nat×Blk)}{nb c:Nat}{w:World}(g:WR ι H nb w){t:List Lf}{l:List (den t)}(d:look H c=some (.rows t l)):∀x,VR ι (.ws c) x->VR ι (.rs t.length c 0 l.length none) x:=by
 intro x hx;simp only[VR]at hx ⊢;rcases jc g d with⟨q,j,m,fr,b,i,h,n,_⟩ | ⟨b,rfl⟩
 ·rcases hx with⟨e,a,rfl⟩ | ⟨a,_⟩
  ·rw[a]at b;cases b;exact .inl ⟨q,q.k,q.o,a,⟨by omega,jQ⟩,λ_=>by omega,by rw[h]⟩
  ·rw[a]at b;cases b
 ·rcases hx with⟨e,a,_⟩ | ⟨a,f,rfl⟩
  ·rw[a]at b;cases b
  ·exact .inr ⟨a,⟨rfl,jQ⟩,f,rfl⟩
def Or{ι:Inj}{z c j n m:Nat}:∀x,VR ι (.rs z c j n (some m)) x->VR ι (.rs z c j n none) x:=by
 intro x hx;simp only[VR]at hx ⊢;rcases hx with⟨q,cp,o,b,a,d⟩ | ⟨b,a,d⟩
 ·exact .inl ⟨q,cp,o,b,⟨a.1,jQ⟩,d⟩
 ·exact .inr ⟨b,⟨a.1,jQ⟩,d⟩
def Qi{α:Type}{f:Fix}{s:St}{k:St->Option α}{z:α}(h:fixK f s k=some z):∃s',k s'=some z/\Weak s s':=by
 unfold fixK at h;split at h
 ·rename_i t g tr;split at h
  ·rename_i p;split at h
   case h_2=>cases h
   rename_i e;have e:=aG e;refine⟨_,h,λn ι0 ι w0 a w d=>⟨upd ι g none,?_⟩⟩;refine(d.phantom e tr).setT (u:=.sn) p λx hx=>?_;simp only[VR]at hx ⊢;exact .inr ⟨db _ _ _,none,hx⟩
  ·exact⟨s,h,Weak.refl s⟩
  ·cases h
 ·rename_i b i g tr;split at h
  case h_2=>cases h
  rename_i l o;split at h
  ·rename_i hi;split at h
   case h_2=>cases h
   rename_i e;have e:=aG e;refine⟨_,h,λn ι0 ι w0 a w d=>⟨upd ι g none,?_⟩⟩;have r:b≠g:=by
    rintro rfl;obtain⟨q,_,_,_,v,_⟩:=pM d.mem o;have:=d.mem.low b _ v;omega
   refine(d.phantom e tr).setH (u:=.sn) (by simp only[aR];rw[ab (Ne.symm r)];exact o) hi λx hx=>?_;simp only[VR]at hx ⊢;exact .inr ⟨db _ _ _,none,hx⟩
  ·exact⟨s,h,Weak.refl s⟩
  ·cases h
 ·rename_i t;split at h
  ·rename_i c p;split at h
   case h_2=>cases h
   rename_i tr l o;exact⟨_,h,λn ι0 ι w0 a w d=>⟨ι,d.setT p (TQ d.mem o)⟩⟩
  ·rename_i z c j n m p;exact⟨_,h,λn ι0 ι w0 a w d=>⟨ι,d.setT p Or⟩⟩
  ·exact⟨s,h,Weak.refl s⟩
  ·cases h
 ·rename_i b i;split at h
  case h_2=>cases h
  rename_i l o;split at h
  ·rename_i c hi;split at h
   case h_2=>cases h
   rename_i tr m hc;exact⟨_,h,λn ι0 ι w0 a w d=>⟨ι,d.setH o hi (TQ d.mem hc)⟩⟩
  ·rename_i z c j n m' hi;exact⟨_,h,λn ι0 ι w0 a w d=>⟨ι,d.setH o hi Or⟩⟩
  ·exact⟨s,h,Weak.refl s⟩
  ·cases h
def B5{α:Type}:∀{l:List Fix} {s:St} {k:St->Option α} {z:α},Gt l s k=some z->∃s',k s'=some z/\Weak s s'
 | [],s,k,z,h=>⟨s,h,Weak.refl s⟩
 | f::l,s,k,z,h=>by
  simp only[Gt]at h;obtain⟨g,e,a⟩:=Qi h;obtain⟨b,d,c⟩:=B5 e;exact⟨b,d,a.trans c⟩
def au{X Y:Type}(step:X->Option (X⊕Y)):Nat->X->Option Y
 | 0,_=>none
 | n+1,x=>match step x with
  | some (.inl a)=>au step n a
  | some (.inr y)=>some y
  | none=>none
def Weak.post{s s':St}(h:Weak s s'){n:Nat}{ι0 ι:Inj}{w0:Base}{a:Act}{w:World}(F:Inv n ι0 w0 ι s a w){ex:Ex}{e:Exit}(E:ExR ι ex e)
  (J:∀v,ex=.pan v->V.flat v=true):∃C,ExR C ex e/\Inv n ι0 w0 C s' a w:=by
 obtain⟨C,G⟩:=h n ι0 ι w0 a w F;refine⟨C,?_,G⟩;cases ex with
 | pan v=>
  obtain⟨x,rfl,hx⟩:=E;exact⟨x,rfl,VR.flat v x (J v rfl) hx⟩
 | _=>exact E
def Qd {X Y:Type} {E:List Ent} (B:∀x∈E,fK P x) {L:List Sub} {n:Nat} {c:AC} (u:jv P n L c) {emb:X->St} {out:Y->Ex×St} {step:X->Option (X⊕Y)} {rd:Ex->St->Option (X⊕Y)}
  (hx:∀ex s x,rd ex s=some (.inl x)->ex=.normal/\Weak s (emb x)) (hy:∀ex s y,rd ex s=some (.inr y)->ex≠.normal/\ex=(out y).1/\Weak s (out y).2/\∀v,ex=.pan v->V.flat v=true)
  (C:∀x,run P E L n c (emb x) rd=step x):∀(m:Nat) (x:X) (y:Y),au step m x=some y->
   SemC P n (.loop c.code) (emb x) λex s=>ex=(out y).1/\s=(out y).2:=by
 intro m x y h ι0 w0 ι a w z;refine wp_loop_rounds m ?_
 induction m generalizing x ι a w with
 | zero=>cases h
 | succ m ih=>
  rw [rounds_succ];simp only [au] at h;cases hs:step x with
  | none=>rw [hs] at h;cases h
  | some r=>
   rw [hs] at h;refine sR ?_ (nY B c _ _ r u (by rw [C x];exact hs) ι0 w0 ι a w z);rintro e o w' ⟨ex,s,l,b,p,q⟩;cases r with
   | inl t=>
    obtain ⟨rfl,k⟩:=hx ex s t q;simp only [ExR] at b;subst b;obtain ⟨d,j⟩:=k n ι0 l w0 o w' p;exact ih t h d o w' j
   | inr f=>
    obtain ⟨g,F,k,D⟩:=hy ex s f q;simp only [ar] at h;subst h;obtain ⟨d,j,A⟩:=k.post p b D;refine (?_:Post n ι0 w0 (λex s=>ex=(out f).1/\s=(out f).2) e o w'->_) ⟨ex,_,d,j,A,F,rfl⟩;cases ex with
    | normal=>exact absurd rfl g
    | exit i=>simp only [ExR] at b;subst b;exact λh=>h
    | ret=>simp only [ExR] at b;subst b;exact λh=>h
    | pan v=>obtain ⟨_,rfl,_⟩:=b;exact λh=>h
def SemC.weak{n:Nat}{c:Code}{s s':St}{E:Ex->St->Prop}(h:Weak s s')(G:SemC P n c s' E):SemC P n c s E:=by
 intro ι0 w0 ι a w F;obtain⟨C,J⟩:=h n ι0 ι w0 a w F;exact G ι0 w0 C a w J
def SemC.mono{n:Nat}{c:Code}{s:St}{E C:Ex->St->Prop}(h:SemC P n c s E)(hi:∀ex s,E ex s->C ex s):SemC P n c s C:=
 λι0 w0 ι a w F=>sR (λ_ _ _ ⟨ex,s,ι,J,G,O⟩=>⟨ex,s,ι,J,G,hi ex s O⟩) (h ι0 w0 ι a w F)
def subE{X Y:Type}(m:Nat)(rd:St->Option X)(f:X->Option Y)(a:(α:Type)->Y->(Ex->St->Option α)->Option α):Sub:=
 ⟨m,λα s k=>ob (rd s) λx=>ob (f x) λy=>a α y k⟩
def IP{α X Y:Type}{n m:Nat}{c:Code}{rd:St->Option X}{f:X->Option Y}{a:(α:Type)->Y->(Ex->St->Option α)->Option α}{out:Y->Ex×St}(i:∀α y k,a α y k=k (out y).1 (out y).2){emb:X->St}(b:∀s x,rd s=some x->Weak s (emb x))
  (o:∀x y,f x=some y->SemC P n c (emb x) λex s=>ex=(out y).1/\s=(out y).2) {s:St} {k:Ex->St->Option α} {z:α} (h:(subE m rd f a).e α s k=some z):
  SemC P n c s λex s'=>k ex s'=some z:=by
 simp only[subE]at h;obtain⟨x,l,h⟩:=av h;obtain⟨y,d,h⟩:=av h;rw[i]at h;exact SemC.weak (b s x l) ((o x y d).mono λex s ⟨j,g⟩=>by rw[j,g];exact h)
def retX{R:Type}(a:V->Option R):Bool->V->St->Option R
 | false,v,_=>cond (V.flat v) (a v) none
 | true,_,_=>none
def MA{R:Type}{k:V->Option R}{enc:R->V}(i:∀v r,k v=some r->v=enc r){E:List Ent}(o:∀x∈E,fK P x){L:List Sub}{f:Nat}{fn:Func}{c:Code}{ac:AC}
  (y:P.funcs[f]?=some fn) (t:fn.body=some c) (hc:ac.code=c) (l:jv P fn.ntmps L ac) {args:List V} {r:R} (A:Nat.ble args.length fn.ntmps=true)
  (h:run P E L fn.ntmps ac ⟨rP args 0,[],0,0,0,0⟩ (finK P fn.results.toList (retX k))=some r):kL P f args (enc r):=by
 intro w z n hx;refine(JA o y t hc l A h jo w z (WR.nothing w) (λ_ _ h=>by cases h) (n.mono λb q h=>by have:=oJ h;cases this) hx).mono λe w' ⟨pan,u,s,ι,a,_,_,_,_,m,d⟩=>?_;cases pan with
 | true=>cases a
 | false=>
  simp only[retX]at a;obtain⟨g,a⟩:=eH a;have p:=i u r a;subst p;cases e with
  | returned x=>exact⟨x,rfl,VR.flat _ _ g d.2,I0 m⟩
  | panicked j=>exact absurd d.1 (by simp)
  | outgrown=>exact d.elim
def CQ{A R:Type}(f:Nat)(b:List V->Option A)(sh:A->Option R)(enc:R->V):Ent:=
 ⟨f,λ_ args _ _ k=>ob (b args) λa=>ob (sh a) λr=>k { val:=enc r }⟩
def sj{A R:Type}{f:Nat}{j:List V->Option A}{sh:A->Option R}{enc:R->V}{arg:A->List V}(c:lR P f)(i:∀l a,j l=some a->l=arg a)
  (g:∀a,V.flats (arg a)=true) (h:∀a r,sh a=some r->kL P f (arg a) (enc r)):fK P (CQ f j sh enc):=by
 intro α args H fr k z e;simp only[CQ]at e;obtain⟨a,n,b⟩:=av e;obtain⟨r,m,d⟩:=av b;clear e b;have:=i args a n;subst this;exact⟨_,d,λo _=>.inl ⟨c,(h a r m).call (g a) o fr⟩⟩
def subs:AC->List (Nat×AC)
 | .seq a b | .cond _ a b=>subs a++subs b
 | .block _ a | .loop a | .scope a=>subs a
 | .sub m c=>[(m,c)]
 | _=>[]
def getS:List (Nat×AC)->Nat->AC
 | [],_=>.skip
 | (k,c)::l,m=>cond (Nat.beq k m) c (getS l m)
def AC.body:AC->AC
 | .loop c=>c
 | c=>c
def V0(P:Program)(n:Nat)(L:List Sub)(m:Nat)(c:AC):Prop:=
 ∀(α:Type) (s:St) (k:Ex->St->Option α) (z:α),Hy α m s k L=some z->SemC P n c.code s λex s'=>k ex s'=some z
def mn{n:Nat}{L:List Sub}:∀(c:AC),(∀p∈subs c,V0 P n L p.1 p.2)->jv P n L c
 | .seq a b,h=>⟨mn a λp hp=>h p (by simp[subs,hp]),mn b λp hp=>h p (by simp[subs,hp])⟩
 | .cond c a b,h=>⟨mn a λp hp=>h p (by simp[subs,hp]),mn b λp hp=>h p (by simp[subs,hp])⟩
 | .block _ a,h=>by simp only[jv];exact mn a λp hp=>h p (by simp[subs,hp])
 | .loop a,h=>by simp only[jv];exact mn a λp hp=>h p (by simp[subs,hp])
 | .scope a,h=>by simp only[jv];exact mn a λp hp=>h p (by simp[subs,hp])
 | .sub m c,h=>h (m,c) (by simp[subs])
 | .skip,_ | .ret,_ | .exit _,_ | .reg _ _,_ | .draw _ _,_ | .bad _,_ | .label _,_=>by simp[jv]
def uo(f:Func):Code:=match f.body with | some c=>c | none=>.skip
def acOf(f:Func):AC:=(sa (uo f) 0).1
def lw(l:List Nat):AC->AC
 | .seq a b=>.seq (lw l a) (lw l b)
 | .cond c a b=>.cond c (lw l a) (lw l b)
 | .block id a=>.block id (lw l a)
 | .loop a=>.loop (lw l a)
 | .scope a=>.scope (lw l a)
 | .sub m c=>cond (l.any (Nat.beq m)) (lw l c) (.sub m (lw l c))
 | c=>c
def g9(l:List Nat):∀c:AC,(lw l c).code=c.code
 | .seq a b=>by simp[lw,AC.code,g9 l a,g9 l b]
 | .cond c a b=>by simp[lw,AC.code,g9 l a,g9 l b]
 | .block id a=>by simp[lw,AC.code,g9 l a]
 | .loop a=>by simp[lw,AC.code,g9 l a]
 | .scope a=>by simp[lw,AC.code,g9 l a]
 | .sub m c=>by
  simp only[lw];cases l.any (Nat.beq m)<;>simp[AC.code,g9 l c]
 | .skip | .ret | .exit _ | .reg _ _ | .draw _ _ | .bad _ | .label _=>rfl
def acU(l:List Nat)(f:Func):AC:=lw l (acOf f)
def BL(f:Func):(acOf f).code=uo f:=jV _ _
def FB(l:List Nat)(f:Func):(acU l f).code=uo f:=(g9 l _).trans (BL f)
end Go.Abs
