
/- Loops by their rounds; functions by what their results read as.
   Conditions: none; generic over the program. -/
import Derived.Test.YtaogbalpingjhaaGreatDoorAbsK
set_option linter.unusedSimpArgs false
set_option linter.unusedVariables false
namespace Go.Abs
variable {P:Program}
mutual
def V.lt (nb:Nat):V->Bool
 | .p c _ | .sl c _ _ _ | .pr _ c _ _ | .ws c | .rs _ c _ _ _ | .mp c=>Nat.blt c nb
 | .fn _ l | .ag l | .tp l=>V.lts nb l
 | .it _ v=>V.lt nb v
 | .b _ | .i _ _ | .s _ | .pn | .sn | .nf | .ni | .ai _ _ _ | .unk=>true
def V.lts (nb:Nat):List V->Bool
 | []=>true
 | v::l=>V.lt nb v&&V.lts nb l
end
def Blk.lt (nb:Nat):Blk->Bool
 | .cells l=>V.lts nb l
 | _=>true
def E7 {α:Type} (nb:Nat) (H:List (Nat×Blk)):List Nat->(List (Nat×Blk)->Option α)->Option α
 | [],k=>k []
 | b::l,k=>match look H b with
  | some blk=>match Blk.lt nb blk&&Nat.blt b nb with
   | true=>E7 nb H l λm=>k ((b,blk)::m)
   | false=>none
  | none=>none
inductive Fix where
 | nilT (t g:Nat) (tr:List Lf)
 | nilH (b i g:Nat) (tr:List Lf)
 | rsT (t:Nat)
 | rsH (b i:Nat)
def fixK {α:Type} (f:Fix) (s:St) (k:St->Option α):Option α:=
 match f with
 | .nilT t g tr=>match look s.T t with
  | some (some .sn)=>match Nat.ble s.nb g with
   | true=>k { T:=(t,some (.ws g))::s.T,H:=(g,.rows tr [])::s.H,nb:=g+1,lo:=s.lo,ro:=s.ro,rb:=s.rb }
   | false=>none
  | some (some (.ws _))=>k s
  | _=>none
 | .nilH b i g tr=>match look s.H b with
  | some (.cells l)=>match l[i]? with
   | some .sn=>match Nat.ble s.nb g with
    | true=>k { T:=s.T,H:=(b,.cells (l.set i (.ws g)))::(g,.rows tr [])::s.H,nb:=g+1,lo:=s.lo,ro:=s.ro,rb:=s.rb }
    | false=>none
   | some (.ws _)=>k s
   | _=>none
  | _=>none
 | .rsT t=>match look s.T t with
  | some (some (.ws c))=>match look s.H c with
   | some (.rows tr l)=>k { T:=(t,some (.rs tr.length c 0 l.length none))::s.T,H:=s.H,nb:=s.nb,lo:=s.lo,ro:=s.ro,rb:=s.rb }
   | _=>none
  | some (some (.rs z c j n (some _)))=>k { T:=(t,some (.rs z c j n none))::s.T,H:=s.H,nb:=s.nb,lo:=s.lo,ro:=s.ro,rb:=s.rb }
  | some (some (.rs _ _ _ _ none))=>k s
  | _=>none
 | .rsH b i=>match look s.H b with
  | some (.cells l)=>match l[i]? with
   | some (.ws c)=>match look s.H c with
    | some (.rows tr m)=>k { T:=s.T,H:=(b,.cells (l.set i (.rs tr.length c 0 m.length none)))::s.H,nb:=s.nb,lo:=s.lo,ro:=s.ro,rb:=s.rb }
    | _=>none
   | some (.rs z c j n (some _))=>k { T:=s.T,H:=(b,.cells (l.set i (.rs z c j n none)))::s.H,nb:=s.nb,lo:=s.lo,ro:=s.ro,rb:=s.rb }
   | some (.rs _ _ _ _ none)=>k s
   | _=>none
  | _=>none
def y4 {α:Type}:List Fix->St->(St->Option α)->Option α
 | [],s,k=>k s
 | f::l,s,k=>fixK f s λs=>y4 l s k
theorem xz {α:Type} {nb:Nat} {H:List (Nat×Blk)}:∀{l:List Nat} {k:List (Nat×Blk)->Option α} {z:α},E7 nb H l k=some z->
  ∃d,k d=some z/\∀b blk,look d b=some blk->look H b=some blk/\Blk.lt nb blk=true/\b<nb
 | [],k,z,h=>⟨[],h,λt v h=>by cases h⟩
 | b::l,k,z,h=>by
  simp only [E7] at h;split at h
  ·rename_i blk g;split at h
   ·rename_i a;simp only [av] at a;obtain ⟨d,f,i⟩:=xz h;refine ⟨_,f,λc x hc=>?_⟩;rw [aF] at hc;split at hc
    ·rename_i e;subst e;simp only [ae] at hc;subst hc;exact ⟨g,a.1,ax a.2⟩
    ·exact i c x hc
   ·cases h
  ·cases h
def Weak (s c:St):Prop:=∀(n:Nat) (ι0 ι:Inj) (w0:Base) (a:Act) (w:World),Inv n ι0 w0 ι s a w->∃b,Inv n ι0 w0 b c a w
theorem Weak.refl (s:St):Weak s s:=λ_ _ ι _ _ _ h=>⟨ι,h⟩
theorem Weak.trans {a b c:St} (h:Weak a b) (C:Weak b c):Weak a c:=λn ι0 ι w0 ac w A=>
 let ⟨ι1,h1⟩:=h n ι0 ι w0 ac w A
 C n ι0 ι1 w0 ac w h1
theorem Inv.phantom {n:Nat} {ι0 ι:Inj} {w0:Base} {s:St} {a:Act} {w:World} (A:Inv n ι0 w0 ι s a w) {g:Nat} (C:s.nb<=g) (tr:List Lf):
  Inv n ι0 w0 (upd ι g none) { T:=s.T,H:=(g,.rows tr [])::s.H,nb:=g+1,lo:=s.lo,ro:=s.ro,rb:=s.rb } a w:=
 A.phantom' (A.fresh g C) (by omega) (Nat.lt_succ_self g) tr
theorem Inv.setT {n:Nat} {ι0 ι:Inj} {w0:Base} {s:St} {a:Act} {w:World} (A:Inv n ι0 w0 ι s a w) {t:Nat} {u v:V} (K:look s.T t=some (some u)) (F:∀x,VR ι u x->VR ι v x):
  Inv n ι0 w0 ι { T:=(t,some v)::s.T,H:=s.H,nb:=s.nb,lo:=s.lo,ro:=s.ro,rb:=s.rb } a w:=by
 refine ⟨A.size,A.defers,λC G h=>?_,A.mem,A.ext,A.new,A.fr,A.low,A.fz,A.gl⟩;rw [aF] at h;split at h
 ·rename_i e;subst e;simp only [ae] at h;subst h;obtain ⟨x,E,J⟩:=A.tmps t u K;exact ⟨x,E,F x J⟩
 ·exact A.tmps C G h
theorem Inv.setH {n:Nat} {ι0 ι:Inj} {w0:Base} {s:St} {a:Act} {w:World} (A:Inv n ι0 w0 ι s a w) {b i:Nat} {l:List V} {u v:V} (U:look s.H b=some (.cells l)) (hi:l[i]?=some u) (K:∀x,VR ι u x->VR ι v x):
  Inv n ι0 w0 ι { T:=s.T,H:=(b,.cells (l.set i v))::s.H,nb:=s.nb,lo:=s.lo,ro:=s.ro,rb:=s.rb } a w:=by
 refine ⟨A.size,A.defers,A.tmps,⟨A.mem.inj,A.mem.low,A.mem.dom,λc y h W=>?_⟩,A.ext,A.new,A.fr,A.low,A.fz,A.gl⟩;rw [aF] at h;split at h
 ·rename_i e;subst e;simp only [ae] at h;subst h;obtain ⟨q,C,e,fr,J,Q,G,M⟩:=ln A.mem U;refine .inl ⟨q,_,J,Q,C,e,fr,rfl,?_,M⟩;obtain ⟨x,F,E⟩:=G.get hi;have:=G.set i (K x E);rwa [show C.toList.set i x=C.toList from by
   apply vu;intro j;rw [List.getElem?_set];split
   ·rename_i e;subst e;split
    ·exact F.symm
    ·rename_i O;rw [dx (by omega)] at F;cases F
   ·rfl] at this
 ·exact A.mem.blk c y h W
theorem JF {ι:Inj} {H:List (Nat×Blk)} {nb c:Nat} {w:World} (g:WR ι H nb w) {t:List Lf} {l:List (den t)} (i:look H c=some (.rows t l)):∀x,VR ι (.ws c) x->VR ι (.rs t.length c 0 l.length none) x:=by
 intro x d;simp only [VR] at d ⊢;rcases fa g i with ⟨q,n,m,fr,b,j,f,p,_⟩ | ⟨b,rfl⟩
 ·rcases d with ⟨e,a,rfl⟩ | ⟨a,_⟩
  ·rw [a] at b;cases b;exact .inl ⟨q,q.k,q.o,a,⟨by omega,fV⟩,λ_=>by omega,by rw [f]⟩
  ·rw [a] at b;cases b
 ·rcases d with ⟨e,a,_⟩ | ⟨a,h,rfl⟩
  ·rw [a] at b;cases b
  ·exact .inr ⟨a,⟨rfl,fV⟩,h,rfl⟩
theorem Gh {ι:Inj} {z c j n m:Nat}:∀x,VR ι (.rs z c j n (some m)) x->VR ι (.rs z c j n none) x:=by
 intro x e;simp only [VR] at e ⊢;rcases e with ⟨q,cp,o,d,b,a⟩ | ⟨d,b,a⟩
 ·exact .inl ⟨q,cp,o,d,⟨b.1,fV⟩,a⟩
 ·exact .inr ⟨d,⟨b.1,fV⟩,a⟩
theorem GU {α:Type} {f:Fix} {s:St} {k:St->Option α} {z:α} (h:fixK f s k=some z):∃y,k y=some z/\Weak s y:=by
 unfold fixK at h;split at h
 ·rename_i t g tr;split at h
  ·rename_i p;split at h
   case h_2=>cases h
   rename_i e;have e:=ax e;refine ⟨_,h,λn ι0 ι w0 a w d=>⟨upd ι g none,?_⟩⟩;refine (d.phantom e tr).setT (u:=.sn) p λx r=>?_;simp only [VR] at r ⊢;exact .inr ⟨bK _ _ _,none,r⟩
  ·exact ⟨s,h,Weak.refl s⟩
  ·cases h
 ·rename_i b i g tr;split at h
  case h_2=>cases h
  rename_i l o;split at h
  ·rename_i hi;split at h
   case h_2=>cases h
   rename_i e;have e:=ax e;refine ⟨_,h,λn ι0 ι w0 a w d=>⟨upd ι g none,?_⟩⟩;have v:b≠g:=by
    rintro rfl;obtain ⟨q,_,_,_,A,_⟩:=ln d.mem o;have:=d.mem.low b _ A;omega
   refine (d.phantom e tr).setH (u:=.sn) (by simp only [aF];rw [ab (Ne.symm v)];exact o) hi λx r=>?_;simp only [VR] at r ⊢;exact .inr ⟨bK _ _ _,none,r⟩
  ·exact ⟨s,h,Weak.refl s⟩
  ·cases h
 ·rename_i t;split at h
  ·rename_i c p;split at h
   case h_2=>cases h
   rename_i tr l o;exact ⟨_,h,λn ι0 ι w0 a w d=>⟨ι,d.setT p (JF d.mem o)⟩⟩
  ·rename_i z c j n m p;exact ⟨_,h,λn ι0 ι w0 a w d=>⟨ι,d.setT p Gh⟩⟩
  ·exact ⟨s,h,Weak.refl s⟩
  ·cases h
 ·rename_i b i;split at h
  case h_2=>cases h
  rename_i l o;split at h
  ·rename_i c hi;split at h
   case h_2=>cases h
   rename_i tr m hc;exact ⟨_,h,λn ι0 ι w0 a w d=>⟨ι,d.setH o hi (JF d.mem hc)⟩⟩
  ·rename_i z c j n m' hi;exact ⟨_,h,λn ι0 ι w0 a w d=>⟨ι,d.setH o hi Gh⟩⟩
  ·exact ⟨s,h,Weak.refl s⟩
  ·cases h
theorem uW {α:Type}:∀{l:List Fix} {s:St} {k:St->Option α} {z:α},y4 l s k=some z->∃a,k a=some z/\Weak s a
 | [],s,k,z,h=>⟨s,h,Weak.refl s⟩
 | f::l,s,k,z,h=>by
  simp only [y4] at h;obtain ⟨i,b,g⟩:=GU h;obtain ⟨e,d,c⟩:=uW b;exact ⟨e,d,g.trans c⟩
def aw {X Y:Type} (step:X->Option (X⊕Y)):Nat->X->Option Y
 | 0,_=>none
 | n+1,x=>match step x with
  | some (.inl a)=>aw step n a
  | some (.inr y)=>some y
  | none=>none
theorem Weak.post {s C:St} (h:Weak s C) {n:Nat} {ι0 ι:Inj} {w0:Base} {a:Act} {w:World} (J:Inv n ι0 w0 ι s a w) {ex:Ex} {e:Exit} (E:ExR ι ex e)
  (G:∀v,ex=.pan v->V.flat v=true):∃A,ExR A ex e/\Inv n ι0 w0 A C a w:=by
 obtain ⟨A,F⟩:=h n ι0 ι w0 a w J;refine ⟨A,?_,F⟩;cases ex with
 | pan v=>
  obtain ⟨x,rfl,K⟩:=E;exact ⟨x,rfl,VR.flat v x (G v rfl) K⟩
 | _=>exact E
theorem HG {X Y:Type} {E:List Ent} (B:∀x∈E,cD P x) {L:List Sub} {n:Nat} {c:AC} (H:fF P n L c) {emb:X->St} {out:Y->Ex×St} {step:X->Option (X⊕Y)} {rd:Ex->St->Option (X⊕Y)}
  (D:∀ex s x,rd ex s=some (.inl x)->ex=.normal/\Weak s (emb x)) (z:∀ex s y,rd ex s=some (.inr y)->ex≠.normal/\ex=(out y).1/\Weak s (out y).2/\∀v,ex=.pan v->V.flat v=true)
  (A:∀x,run P E L n c (emb x) rd=step x):∀(m:Nat) (x:X) (y:Y),aw step m x=some y->
   SemC P n (.loop c.code) (emb x) λex s=>ex=(out y).1/\s=(out y).2:=by
 intro m x y h ι0 w0 ι a w I;refine wp_loop_rounds m ?_
 induction m generalizing x ι a w with
 | zero=>cases h
 | succ m ih=>
  rw [rounds_succ];simp only [aw] at h;cases g:step x with
  | none=>rw [g] at h;cases h
  | some r=>
   rw [g] at h;refine om ?_ (ko B c _ _ r H (by rw [A x];exact g) ι0 w0 ι a w I);rintro e o w' ⟨ex,s,p,b,t,q⟩;cases r with
   | inl u=>
    obtain ⟨rfl,j⟩:=D ex s u q;simp only [ExR] at b;subst b;obtain ⟨d,k⟩:=j n ι0 p w0 o w' t;exact ih u h d o w' k
   | inr l=>
    obtain ⟨f,C,j,F⟩:=z ex s l q;simp only [ae] at h;subst h;obtain ⟨d,k,G⟩:=j.post t b F;refine (?_:Post n ι0 w0 (λex s=>ex=(out l).1/\s=(out l).2) e o w'->_) ⟨ex,_,d,k,G,C,rfl⟩;cases ex with
    | normal=>exact absurd rfl f
    | exit i=>simp only [ExR] at b;subst b;exact λh=>h
    | ret=>simp only [ExR] at b;subst b;exact λh=>h
    | pan v=>obtain ⟨_,rfl,_⟩:=b;exact λh=>h
theorem SemC.weak {n:Nat} {c:Code} {s C:St} {E:Ex->St->Prop} (h:Weak s C) (G:SemC P n c C E):SemC P n c s E:=by
 intro ι0 w0 ι a w J;obtain ⟨A,F⟩:=h n ι0 ι w0 a w J;exact G ι0 w0 A a w F
theorem SemC.mono {n:Nat} {c:Code} {s:St} {A C:Ex->St->Prop} (h:SemC P n c s A) (hi:∀ex s,A ex s->C ex s):SemC P n c s C:=
 λι0 w0 ι a w G=>om (λ_ _ _ ⟨ex,s,ι,F,J,E⟩=>⟨ex,s,ι,F,J,hi ex s E⟩) (h ι0 w0 ι a w G)
def subE {X Y:Type} (m:Nat) (rd:St->Option X) (f:X->Option Y) (a:(α:Type)->Y->(Ex->St->Option α)->Option α):Sub:=
 ⟨m,λα s k=>ob (rd s) λx=>ob (f x) λy=>a α y k⟩
theorem Dc {α X Y:Type} {n m:Nat} {c:Code} {rd:St->Option X} {f:X->Option Y} {a:(α:Type)->Y->(Ex->St->Option α)->Option α} {out:Y->Ex×St} (o:∀α y k,a α y k=k (out y).1 (out y).2) {emb:X->St} (b:∀s x,rd s=some x->Weak s (emb x))
  (i:∀x y,f x=some y->SemC P n c (emb x) λex s=>ex=(out y).1/\s=(out y).2) {s:St} {k:Ex->St->Option α} {z:α} (h:(subE m rd f a).e α s k=some z):
  SemC P n c s λex d=>k ex d=some z:=by
 simp only [subE] at h;obtain ⟨x,g,h⟩:=ah h;obtain ⟨y,j,h⟩:=ah h;rw [o] at h;exact SemC.weak (b s x g) ((i x y j).mono λex s ⟨p,l⟩=>by rw [p,l];exact h)
def retX {R:Type} (a:V->Option R):Bool->V->St->Option R
 | false,v,_=>cond (V.flat v) (a v) none
 | true,_,_=>none
theorem FP {R:Type} {k:V->Option R} {enc:R->V} (g:∀v r,k v=some r->v=enc r) {E:List Ent} (y:∀x∈E,cD P x) {L:List Sub} {f:Nat} {fn:Func} {c:Code} {ac:AC}
  (z:P.funcs[f]?=some fn) (p:fn.body=some c) (hc:ac.code=c) (m:fF P fn.ntmps L ac) {args:List V} {r:R} (o:Nat.ble args.length fn.ntmps=true)
  (h:run P E L fn.ntmps ac ⟨ng args 0,[],0,0,0,0⟩ (finK P fn.results.toList (retX k))=some r):f7 P f args (enc r):=by
 intro w l n B;refine (Dp y z p hc m o h dH w l (WR.nothing w) (λ_ _ h=>by cases h) (n.mono λb q h=>by have:=kN h;cases this) B).mono λe w' ⟨pan,u,s,ι,a,_,_,_,_,t,j⟩=>?_;cases pan with
 | true=>cases a
 | false=>
  simp only [retX] at a;obtain ⟨i,a⟩:=ca a;have A:=g u r a;subst A;cases e with
  | returned x=>exact ⟨x,rfl,VR.flat _ _ i j.2,CJ t⟩
  | panicked d=>exact absurd j.1 (by simp)
  | outgrown=>exact j.elim
def u1 {A R:Type} (f:Nat) (b:List V->Option A) (sh:A->Option R) (enc:R->V):Ent:=
 ⟨f,λ_ args _ _ k=>ob (b args) λa=>ob (sh a) λr=>k { val:=enc r }⟩
theorem oe {A R:Type} {f:Nat} {j:List V->Option A} {sh:A->Option R} {enc:R->V} {arg:A->List V} (c:gx P f) (d:∀l a,j l=some a->l=arg a)
  (e:∀a,V.flats (arg a)=true) (h:∀a r,sh a=some r->f7 P f (arg a) (enc r)):cD P (u1 f j sh enc):=by
 intro α args H fr k z g;simp only [u1] at g;obtain ⟨a,m,b⟩:=ah g;obtain ⟨r,o,i⟩:=ah b;clear g b;have:=d args a m;subst this;exact ⟨_,i,λn _=>.inl ⟨c,(h a r o).call (e a) n fr⟩⟩
def subs:AC->List (Nat×AC)
 | .seq a b | .cond _ a b=>subs a++subs b
 | .block _ a | .loop a | .scope a=>subs a
 | .sub m c=>[(m,c)]
 | _=>[]
def getS:List (Nat×AC)->Nat->AC
 | [],_=>.skip
 | (k,c)::l,m=>cond (Nat.beq k m) c (getS l m)
def AC.body:AC->AC
 | .loop c=>c
 | c=>c
def JZ (P:Program) (n:Nat) (L:List Sub) (m:Nat) (c:AC):Prop:=
 ∀(α:Type) (s:St) (k:Ex->St->Option α) (z:α),zT α m s k L=some z->SemC P n c.code s λex a=>k ex a=some z
theorem iR {n:Nat} {L:List Sub}:∀(c:AC),(∀p∈subs c,JZ P n L p.1 p.2)->fF P n L c
 | .seq a b,h=>⟨iR a λp d=>h p (by simp [subs,d]),iR b λp d=>h p (by simp [subs,d])⟩
 | .cond c a b,h=>⟨iR a λp d=>h p (by simp [subs,d]),iR b λp d=>h p (by simp [subs,d])⟩
 | .block _ a,h=>by simp only [fF];exact iR a λp d=>h p (by simp [subs,d])
 | .loop a,h=>by simp only [fF];exact iR a λp d=>h p (by simp [subs,d])
 | .scope a,h=>by simp only [fF];exact iR a λp d=>h p (by simp [subs,d])
 | .sub m c,h=>h (m,c) (by simp [subs])
 | .skip,_ | .ret,_ | .exit _,_ | .reg _ _,_ | .draw _ _,_ | .bad _,_ | .label _,_=>by simp [fF]
def pi (f:Func):Code:=match f.body with | some c=>c | none=>.skip
def acOf (f:Func):AC:=(nc (pi f) 0).1
def ig (l:List Nat):AC->AC
 | .seq a b=>.seq (ig l a) (ig l b)
 | .cond c a b=>.cond c (ig l a) (ig l b)
 | .block id a=>.block id (ig l a)
 | .loop a=>.loop (ig l a)
 | .scope a=>.scope (ig l a)
 | .sub m c=>cond (l.any (Nat.beq m)) (ig l c) (.sub m (ig l c))
 | c=>c
theorem dL (l:List Nat):∀c:AC,(ig l c).code=c.code
 | .seq a b=>by simp [ig,AC.code,dL l a,dL l b]
 | .cond c a b=>by simp [ig,AC.code,dL l a,dL l b]
 | .block id a=>by simp [ig,AC.code,dL l a]
 | .loop a=>by simp [ig,AC.code,dL l a]
 | .scope a=>by simp [ig,AC.code,dL l a]
 | .sub m c=>by
  simp only [ig];cases l.any (Nat.beq m)<;>simp [AC.code,dL l c]
 | .skip | .ret | .exit _ | .reg _ _ | .draw _ _ | .bad _ | .label _=>rfl
def acU (l:List Nat) (f:Func):AC:=ig l (acOf f)
theorem vd (f:Func):(acOf f).code=pi f:=fW _ _
theorem yX (l:List Nat) (f:Func):(acU l f).code=pi f:=(dL l _).trans (vd f)
end Go.Abs
