
/- Loops by their rounds; functions by what their results read as.
   Conditions: none; generic over the program. -/
import Derived.Test.YthemneooekobkaaGreatDoorAbsK
set_option linter.unusedSimpArgs false
set_option linter.unusedVariables false
namespace Go.Abs
variable {P:Program}
mutual
def V.lt (nb:Nat):V->Bool
 | .p c _ | .sl c _ _ _ | .pr _ c _ _ | .ws c | .rs _ c _ _ _ | .mp c=>Nat.blt c nb
 | .fn _ l | .ag l | .tp l=>V.lts nb l
 | .it _ v=>V.lt nb v
 | .b _ | .i _ _ | .s _ | .pn | .sn | .nf | .ni | .ai _ _ _ | .unk=>true
def V.lts (nb:Nat):List V->Bool
 | []=>true
 | v::l=>V.lt nb v&&V.lts nb l
end
def Blk.lt (nb:Nat):Blk->Bool
 | .cells l=>V.lts nb l
 | _=>true
def Lt {α:Type} (nb:Nat) (H:List (Nat×Blk)):List Nat->(List (Nat×Blk)->Option α)->Option α
 | [],k=>k []
 | b::l,k=>match look H b with
  | some blk=>match Blk.lt nb blk&&Nat.blt b nb with
   | true=>Lt nb H l λm=>k ((b,blk)::m)
   | false=>none
  | none=>none
inductive Fix where
 | nilT (t g:Nat) (tr:List Lf)
 | nilH (b i g:Nat) (tr:List Lf)
 | rsT (t:Nat)
 | rsH (b i:Nat)
def fixK {α:Type} (f:Fix) (s:St) (k:St->Option α):Option α:=
 match f with
 | .nilT t g tr=>match look s.T t with
  | some (some .sn)=>match Nat.ble s.nb g with
   | true=>k { T:=(t,some (.ws g))::s.T,H:=(g,.rows tr [])::s.H,nb:=g+1,lo:=s.lo,ro:=s.ro,rb:=s.rb }
   | false=>none
  | some (some (.ws _))=>k s
  | _=>none
 | .nilH b i g tr=>match look s.H b with
  | some (.cells l)=>match l[i]? with
   | some .sn=>match Nat.ble s.nb g with
    | true=>k { T:=s.T,H:=(b,.cells (l.set i (.ws g)))::(g,.rows tr [])::s.H,nb:=g+1,lo:=s.lo,ro:=s.ro,rb:=s.rb }
    | false=>none
   | some (.ws _)=>k s
   | _=>none
  | _=>none
 | .rsT t=>match look s.T t with
  | some (some (.ws c))=>match look s.H c with
   | some (.rows tr l)=>k { T:=(t,some (.rs tr.length c 0 l.length none))::s.T,H:=s.H,nb:=s.nb,lo:=s.lo,ro:=s.ro,rb:=s.rb }
   | _=>none
  | some (some (.rs z c j n (some _)))=>k { T:=(t,some (.rs z c j n none))::s.T,H:=s.H,nb:=s.nb,lo:=s.lo,ro:=s.ro,rb:=s.rb }
  | some (some (.rs _ _ _ _ none))=>k s
  | _=>none
 | .rsH b i=>match look s.H b with
  | some (.cells l)=>match l[i]? with
   | some (.ws c)=>match look s.H c with
    | some (.rows tr m)=>k { T:=s.T,H:=(b,.cells (l.set i (.rs tr.length c 0 m.length none)))::s.H,nb:=s.nb,lo:=s.lo,ro:=s.ro,rb:=s.rb }
    | _=>none
   | some (.rs z c j n (some _))=>k { T:=s.T,H:=(b,.cells (l.set i (.rs z c j n none)))::s.H,nb:=s.nb,lo:=s.lo,ro:=s.ro,rb:=s.rb }
   | some (.rs _ _ _ _ none)=>k s
   | _=>none
  | _=>none
def Eh {α:Type}:List Fix->St->(St->Option α)->Option α
 | [],s,k=>k s
 | f::l,s,k=>fixK f s λs=>Eh l s k
theorem Dk {α:Type} {nb:Nat} {H:List (Nat×Blk)}:∀{l:List Nat} {k:List (Nat×Blk)->Option α} {z:α},Lt nb H l k=some z->
  ∃d,k d=some z/\∀b blk,look d b=some blk->look H b=some blk/\Blk.lt nb blk=true/\b<nb
 | [],k,z,h=>⟨[],h,λt v h=>by cases h⟩
 | b::l,k,z,h=>by
  simp only [Lt] at h;split at h
  ·rename_i blk g;split at h
   ·rename_i a;simp only [aA] at a;obtain ⟨d,i,f⟩:=Dk h;refine ⟨_,i,λc x hc=>?_⟩;rw [aP] at hc;split at hc
    ·rename_i e;subst e;simp only [aq] at hc;subst hc;exact ⟨g,a.1,aH a.2⟩
    ·exact f c x hc
   ·cases h
  ·cases h
def Weak (s s':St):Prop:=∀(n:Nat) (ι0 ι:Inj) (w0:Base) (a:Act) (w:World),Inv n ι0 w0 ι s a w->∃b,Inv n ι0 w0 b s' a w
theorem Weak.refl (s:St):Weak s s:=λ_ _ ι _ _ _ h=>⟨ι,h⟩
theorem Weak.trans {a b c:St} (h:Weak a b) (C:Weak b c):Weak a c:=λn ι0 ι w0 ac w E=>
 let ⟨ι1,h1⟩:=h n ι0 ι w0 ac w E
 C n ι0 ι1 w0 ac w h1
theorem Inv.phantom {n:Nat} {ι0 ι:Inj} {w0:Base} {s:St} {a:Act} {w:World} (C:Inv n ι0 w0 ι s a w) {g:Nat} (E:s.nb<=g) (tr:List Lf):
  Inv n ι0 w0 (upd ι g none) { T:=s.T,H:=(g,.rows tr [])::s.H,nb:=g+1,lo:=s.lo,ro:=s.ro,rb:=s.rb } a w:=
 C.phantom' (C.fresh g E) (by omega) (Nat.lt_succ_self g) tr
theorem Inv.setT {n:Nat} {ι0 ι:Inj} {w0:Base} {s:St} {a:Act} {w:World} (C:Inv n ι0 w0 ι s a w) {t:Nat} {u v:V} (K:look s.T t=some (some u)) (O:∀x,VR ι u x->VR ι v x):
  Inv n ι0 w0 ι { T:=(t,some v)::s.T,H:=s.H,nb:=s.nb,lo:=s.lo,ro:=s.ro,rb:=s.rb } a w:=by
 refine ⟨C.size,C.defers,λE F h=>?_,C.mem,C.ext,C.new,C.fr,C.low,C.fz,C.gl⟩;rw [aP] at h;split at h
 ·rename_i e;subst e;simp only [aq] at h;subst h;obtain ⟨x,J,G⟩:=C.tmps t u K;exact ⟨x,J,O x G⟩
 ·exact C.tmps E F h
theorem Inv.setH {n:Nat} {ι0 ι:Inj} {w0:Base} {s:St} {a:Act} {w:World} (C:Inv n ι0 w0 ι s a w) {b i:Nat} {l:List V} {u v:V} (X:look s.H b=some (.cells l)) (hi:l[i]?=some u) (Y:∀x,VR ι u x->VR ι v x):
  Inv n ι0 w0 ι { T:=s.T,H:=(b,.cells (l.set i v))::s.H,nb:=s.nb,lo:=s.lo,ro:=s.ro,rb:=s.rb } a w:=by
 refine ⟨C.size,C.defers,C.tmps,⟨C.mem.inj,C.mem.low,C.mem.dom,λc y h O=>?_⟩,C.ext,C.new,C.fr,C.low,C.fz,C.gl⟩;rw [aP] at h;split at h
 ·rename_i e;subst e;simp only [aq] at h;subst h;obtain ⟨q,E,e,fr,W,Q,J,K⟩:=oY C.mem X;refine .inl ⟨q,_,W,Q,E,e,fr,rfl,?_,K⟩;obtain ⟨x,G,F⟩:=J.get hi;have:=J.set i (Y x F);rwa [show E.toList.set i x=E.toList from by
   apply AZ;intro j;rw [List.getElem?_set];split
   ·rename_i e;subst e;split
    ·exact G.symm
    ·rename_i U;rw [fU (by omega)] at G;cases G
   ·rfl] at this
 ·exact C.mem.blk c y h O
theorem Rt {ι:Inj} {H:List (Nat×Blk)} {nb c:Nat} {w:World} (f:WR ι H nb w) {t:List Lf} {l:List (den t)} (i:look H c=some (.rows t l)):∀x,VR ι (.ws c) x->VR ι (.rs t.length c 0 l.length none) x:=by
 intro x d;simp only [VR] at d ⊢;rcases ip f i with ⟨q,j,m,fr,b,n,g,p,_⟩ | ⟨b,rfl⟩
 ·rcases d with ⟨h,a,rfl⟩ | ⟨a,_⟩
  ·rw [a] at b;cases b;exact .inl ⟨q,q.k,q.o,a,⟨by omega,jl⟩,λ_=>by omega,by rw [g]⟩
  ·rw [a] at b;cases b
 ·rcases d with ⟨h,a,_⟩ | ⟨a,e,rfl⟩
  ·rw [a] at b;cases b
  ·exact .inr ⟨a,⟨rfl,jl⟩,e,rfl⟩
theorem ND {ι:Inj} {z c j n m:Nat}:∀x,VR ι (.rs z c j n (some m)) x->VR ι (.rs z c j n none) x:=by
 intro x e;simp only [VR] at e ⊢;rcases e with ⟨q,cp,o,a,d,b⟩ | ⟨a,d,b⟩
 ·exact .inl ⟨q,cp,o,a,⟨d.1,jl⟩,b⟩
 ·exact .inr ⟨a,⟨d.1,jl⟩,b⟩
theorem N9 {α:Type} {f:Fix} {s:St} {k:St->Option α} {z:α} (h:fixK f s k=some z):∃s',k s'=some z/\Weak s s':=by
 unfold fixK at h;split at h
 ·rename_i t g tr;split at h
  ·rename_i r;split at h
   case h_2=>cases h
   rename_i e;have e:=aH e;refine ⟨_,h,λn ι0 ι w0 a w d=>⟨upd ι g none,?_⟩⟩;refine (d.phantom e tr).setT (u:=.sn) r λx p=>?_;simp only [VR] at p ⊢;exact .inr ⟨cX _ _ _,none,p⟩
  ·exact ⟨s,h,Weak.refl s⟩
  ·cases h
 ·rename_i b i g tr;split at h
  case h_2=>cases h
  rename_i l o;split at h
  ·rename_i hi;split at h
   case h_2=>cases h
   rename_i e;have e:=aH e;refine ⟨_,h,λn ι0 ι w0 a w d=>⟨upd ι g none,?_⟩⟩;have v:b≠g:=by
    rintro rfl;obtain ⟨q,_,_,_,y,_⟩:=oY d.mem o;have:=d.mem.low b _ y;omega
   refine (d.phantom e tr).setH (u:=.sn) (by simp only [aP];rw [ab (Ne.symm v)];exact o) hi λx p=>?_;simp only [VR] at p ⊢;exact .inr ⟨cX _ _ _,none,p⟩
  ·exact ⟨s,h,Weak.refl s⟩
  ·cases h
 ·rename_i t;split at h
  ·rename_i c r;split at h
   case h_2=>cases h
   rename_i tr l o;exact ⟨_,h,λn ι0 ι w0 a w d=>⟨ι,d.setT r (Rt d.mem o)⟩⟩
  ·rename_i z c j n m r;exact ⟨_,h,λn ι0 ι w0 a w d=>⟨ι,d.setT r ND⟩⟩
  ·exact ⟨s,h,Weak.refl s⟩
  ·cases h
 ·rename_i b i;split at h
  case h_2=>cases h
  rename_i l o;split at h
  ·rename_i c hi;split at h
   case h_2=>cases h
   rename_i tr m hc;exact ⟨_,h,λn ι0 ι w0 a w d=>⟨ι,d.setH o hi (Rt d.mem hc)⟩⟩
  ·rename_i z c j n m' hi;exact ⟨_,h,λn ι0 ι w0 a w d=>⟨ι,d.setH o hi ND⟩⟩
  ·exact ⟨s,h,Weak.refl s⟩
  ·cases h
theorem zH {α:Type}:∀{l:List Fix} {s:St} {k:St->Option α} {z:α},Eh l s k=some z->∃s',k s'=some z/\Weak s s'
 | [],s,k,z,h=>⟨s,h,Weak.refl s⟩
 | f::l,s,k,z,h=>by
  simp only [Eh] at h;obtain ⟨g,d,b⟩:=N9 h;obtain ⟨e,a,c⟩:=zH d;exact ⟨e,a,b.trans c⟩
def aw {X Y:Type} (step:X->Option (X⊕Y)):Nat->X->Option Y
 | 0,_=>none
 | n+1,x=>match step x with
  | some (.inl a)=>aw step n a
  | some (.inr y)=>some y
  | none=>none
theorem Weak.post {s s':St} (h:Weak s s') {n:Nat} {ι0 ι:Inj} {w0:Base} {a:Act} {w:World} (F:Inv n ι0 w0 ι s a w) {ex:Ex} {e:Exit} (E:ExR ι ex e)
  (K:∀v,ex=.pan v->V.flat v=true):∃C,ExR C ex e/\Inv n ι0 w0 C s' a w:=by
 obtain ⟨C,J⟩:=h n ι0 ι w0 a w F;refine ⟨C,?_,J⟩;cases ex with
 | pan v=>
  obtain ⟨x,rfl,G⟩:=E;exact ⟨x,rfl,VR.flat v x (K v rfl) G⟩
 | _=>exact E
theorem Og {X Y:Type} {E:List Ent} (B:∀x∈E,fO P x) {L:List Sub} {n:Nat} {c:AC} (C:iJ P n L c) {emb:X->St} {out:Y->Ex×St} {step:X->Option (X⊕Y)} {rd:Ex->St->Option (X⊕Y)}
  (H:∀ex s x,rd ex s=some (.inl x)->ex=.normal/\Weak s (emb x)) (D:∀ex s y,rd ex s=some (.inr y)->ex≠.normal/\ex=(out y).1/\Weak s (out y).2/\∀v,ex=.pan v->V.flat v=true)
  (A:∀x,run P E L n c (emb x) rd=step x):∀(m:Nat) (x:X) (y:Y),aw step m x=some y->
   SemC P n (.loop c.code) (emb x) λex s=>ex=(out y).1/\s=(out y).2:=by
 intro m x y h ι0 w0 ι a w G;refine wp_loop_rounds m ?_
 induction m generalizing x ι a w with
 | zero=>cases h
 | succ m ih=>
  rw [rounds_succ];simp only [aw] at h;cases o:step x with
  | none=>rw [o] at h;cases h
  | some r=>
   rw [o] at h;refine rC ?_ (mN B c _ _ r C (by rw [A x];exact o) ι0 w0 ι a w G);rintro e k w' ⟨ex,s,g,b,t,q⟩;cases r with
   | inl u=>
    obtain ⟨rfl,p⟩:=H ex s u q;simp only [ExR] at b;subst b;obtain ⟨d,l⟩:=p n ι0 g w0 k w' t;exact ih u h d k w' l
   | inr j=>
    obtain ⟨f,F,p,z⟩:=D ex s j q;simp only [aq] at h;subst h;obtain ⟨d,l,I⟩:=p.post t b z;refine (?_:Post n ι0 w0 (λex s=>ex=(out j).1/\s=(out j).2) e k w'->_) ⟨ex,_,d,l,I,F,rfl⟩;cases ex with
    | normal=>exact absurd rfl f
    | exit i=>simp only [ExR] at b;subst b;exact λh=>h
    | ret=>simp only [ExR] at b;subst b;exact λh=>h
    | pan v=>obtain ⟨_,rfl,_⟩:=b;exact λh=>h
theorem SemC.weak {n:Nat} {c:Code} {s s':St} {E:Ex->St->Prop} (h:Weak s s') (G:SemC P n c s' E):SemC P n c s E:=by
 intro ι0 w0 ι a w F;obtain ⟨C,J⟩:=h n ι0 ι w0 a w F;exact G ι0 w0 C a w J
theorem SemC.mono {n:Nat} {c:Code} {s:St} {E C:Ex->St->Prop} (h:SemC P n c s E) (hi:∀ex s,E ex s->C ex s):SemC P n c s C:=
 λι0 w0 ι a w G=>rC (λ_ _ _ ⟨ex,s,ι,K,F,J⟩=>⟨ex,s,ι,K,F,hi ex s J⟩) (h ι0 w0 ι a w G)
def subE {X Y:Type} (m:Nat) (rd:St->Option X) (f:X->Option Y) (a:(α:Type)->Y->(Ex->St->Option α)->Option α):Sub:=
 ⟨m,λα s k=>ob (rd s) λx=>ob (f x) λy=>a α y k⟩
theorem Ju {α X Y:Type} {n m:Nat} {c:Code} {rd:St->Option X} {f:X->Option Y} {a:(α:Type)->Y->(Ex->St->Option α)->Option α} {out:Y->Ex×St} (j:∀α y k,a α y k=k (out y).1 (out y).2) {emb:X->St} (b:∀s x,rd s=some x->Weak s (emb x))
  (d:∀x y,f x=some y->SemC P n c (emb x) λex s=>ex=(out y).1/\s=(out y).2) {s:St} {k:Ex->St->Option α} {z:α} (h:(subE m rd f a).e α s k=some z):
  SemC P n c s λex s'=>k ex s'=some z:=by
 simp only [subE] at h;obtain ⟨x,l,h⟩:=av h;obtain ⟨y,i,h⟩:=av h;rw [j] at h;exact SemC.weak (b s x l) ((d x y i).mono λex s ⟨o,g⟩=>by rw [o,g];exact h)
def retX {R:Type} (a:V->Option R):Bool->V->St->Option R
 | false,v,_=>cond (V.flat v) (a v) none
 | true,_,_=>none
theorem KO {R:Type} {k:V->Option R} {enc:R->V} (d:∀v r,k v=some r->v=enc r) {E:List Ent} (o:∀x∈E,fO P x) {L:List Sub} {f:Nat} {fn:Func} {c:Code} {ac:AC}
  (m:P.funcs[f]?=some fn) (B:fn.body=some c) (hc:ac.code=c) (p:iJ P fn.ntmps L ac) {args:List V} {r:R} (y:Nat.ble args.length fn.ntmps=true)
  (h:run P E L fn.ntmps ac ⟨qg args 0,[],0,0,0,0⟩ (finK P fn.results.toList (retX k))=some r):jP P f args (enc r):=by
 intro w t n z;refine (Ht o m B hc p y h iM w t (WR.nothing w) (λ_ _ h=>by cases h) (n.mono λb q h=>by have:=nv h;cases this) z).mono λe w' ⟨pan,u,s,ι,a,_,_,_,_,l,g⟩=>?_;cases pan with
 | true=>cases a
 | false=>
  simp only [retX] at a;obtain ⟨i,a⟩:=dX a;have A:=d u r a;subst A;cases e with
  | returned x=>exact ⟨x,rfl,VR.flat _ _ i g.2,GY l⟩
  | panicked j=>exact absurd g.1 (by simp)
  | outgrown=>exact g.elim
def AB {A R:Type} (f:Nat) (b:List V->Option A) (sh:A->Option R) (enc:R->V):Ent:=
 ⟨f,λ_ args _ _ k=>ob (b args) λa=>ob (sh a) λr=>k { val:=enc r }⟩
theorem qM {A R:Type} {f:Nat} {j:List V->Option A} {sh:A->Option R} {enc:R->V} {arg:A->List V} (c:kG P f) (d:∀l a,j l=some a->l=arg a)
  (g:∀a,V.flats (arg a)=true) (h:∀a r,sh a=some r->jP P f (arg a) (enc r)):fO P (AB f j sh enc):=by
 intro α args H fr k z i;simp only [AB] at i;obtain ⟨a,o,b⟩:=av i;obtain ⟨r,m,e⟩:=av b;clear i b;have:=d args a o;subst this;exact ⟨_,e,λn _=>.inl ⟨c,(h a r m).call (g a) n fr⟩⟩
def subs:AC->List (Nat×AC)
 | .seq a b | .cond _ a b=>subs a++subs b
 | .block _ a | .loop a | .scope a=>subs a
 | .sub m c=>[(m,c)]
 | _=>[]
def getS:List (Nat×AC)->Nat->AC
 | [],_=>.skip
 | (k,c)::l,m=>cond (Nat.beq k m) c (getS l m)
def AC.body:AC->AC
 | .loop c=>c
 | c=>c
def SO (P:Program) (n:Nat) (L:List Sub) (m:Nat) (c:AC):Prop:=
 ∀(α:Type) (s:St) (k:Ex->St->Option α) (z:α),FL α m s k L=some z->SemC P n c.code s λex s'=>k ex s'=some z
theorem la {n:Nat} {L:List Sub}:∀(c:AC),(∀p∈subs c,SO P n L p.1 p.2)->iJ P n L c
 | .seq a b,h=>⟨la a λp d=>h p (by simp [subs,d]),la b λp d=>h p (by simp [subs,d])⟩
 | .cond c a b,h=>⟨la a λp d=>h p (by simp [subs,d]),la b λp d=>h p (by simp [subs,d])⟩
 | .block _ a,h=>by simp only [iJ];exact la a λp d=>h p (by simp [subs,d])
 | .loop a,h=>by simp only [iJ];exact la a λp d=>h p (by simp [subs,d])
 | .scope a,h=>by simp only [iJ];exact la a λp d=>h p (by simp [subs,d])
 | .sub m c,h=>h (m,c) (by simp [subs])
 | .skip,_ | .ret,_ | .exit _,_ | .reg _ _,_ | .draw _ _,_ | .bad _,_ | .label _,_=>by simp [iJ]
def sC (f:Func):Code:=match f.body with | some c=>c | none=>.skip
def acOf (f:Func):AC:=(qk (sC f) 0).1
def kE (l:List Nat):AC->AC
 | .seq a b=>.seq (kE l a) (kE l b)
 | .cond c a b=>.cond c (kE l a) (kE l b)
 | .block id a=>.block id (kE l a)
 | .loop a=>.loop (kE l a)
 | .scope a=>.scope (kE l a)
 | .sub m c=>cond (l.any (Nat.beq m)) (kE l c) (.sub m (kE l c))
 | c=>c
theorem gi (l:List Nat):∀c:AC,(kE l c).code=c.code
 | .seq a b=>by simp [kE,AC.code,gi l a,gi l b]
 | .cond c a b=>by simp [kE,AC.code,gi l a,gi l b]
 | .block id a=>by simp [kE,AC.code,gi l a]
 | .loop a=>by simp [kE,AC.code,gi l a]
 | .scope a=>by simp [kE,AC.code,gi l a]
 | .sub m c=>by
  simp only [kE];cases l.any (Nat.beq m)<;>simp [AC.code,gi l c]
 | .skip | .ret | .exit _ | .reg _ _ | .draw _ _ | .bad _ | .label _=>rfl
def acU (l:List Nat) (f:Func):AC:=kE l (acOf f)
theorem zE (f:Func):(acOf f).code=sC f:=jg _ _
theorem En (l:List Nat) (f:Func):(acU l f).code=sC f:=(gi l _).trans (zE f)
end Go.Abs
