
/- Loops by their rounds; functions by what their results read as.
   Conditions: none; generic over the program. -/
import Derived.Test.YthemneooekobkabGreatDoorAbsK
set_option linter.unusedSimpArgs false
set_option linter.unusedVariables false
namespace Go.Abs
variable {P:Program}
mutual
def V.lt (nb:Nat):V->Bool
 | .p c _ | .sl c _ _ _ | .pr _ c _ _ | .ws c | .rs _ c _ _ _ | .mp c=>Nat.blt c nb
 | .fn _ l | .ag l | .tp l=>V.lts nb l
 | .it _ v=>V.lt nb v
 | .b _ | .i _ _ | .s _ | .pn | .sn | .nf | .ni | .ai _ _ _ | .unk=>true
def V.lts (nb:Nat):List V->Bool
 | []=>true
 | v::l=>V.lt nb v&&V.lts nb l
end
def Blk.lt (nb:Nat):Blk->Bool
 | .cells l=>V.lts nb l
 | _=>true
def OR {α:Type} (nb:Nat) (H:List (Nat×Blk)):List Nat->(List (Nat×Blk)->Option α)->Option α
 | [],k=>k []
 | b::l,k=>match look H b with
  | some blk=>match Blk.lt nb blk&&Nat.blt b nb with
   | true=>OR nb H l λm=>k ((b,blk)::m)
   | false=>none
  | none=>none
inductive Fix where
 | nilT (t g:Nat) (tr:List Lf)
 | nilH (b i g:Nat) (tr:List Lf)
 | rsT (t:Nat)
 | rsH (b i:Nat)
def fixK {α:Type} (f:Fix) (s:St) (k:St->Option α):Option α:=
 match f with
 | .nilT t g tr=>match look s.T t with
  | some (some .sn)=>match Nat.ble s.nb g with
   | true=>k { T:=(t,some (.ws g))::s.T,H:=(g,.rows tr [])::s.H,nb:=g+1,lo:=s.lo,ro:=s.ro,rb:=s.rb }
   | false=>none
  | some (some (.ws _))=>k s
  | _=>none
 | .nilH b i g tr=>match look s.H b with
  | some (.cells l)=>match l[i]? with
   | some .sn=>match Nat.ble s.nb g with
    | true=>k { T:=s.T,H:=(b,.cells (l.set i (.ws g)))::(g,.rows tr [])::s.H,nb:=g+1,lo:=s.lo,ro:=s.ro,rb:=s.rb }
    | false=>none
   | some (.ws _)=>k s
   | _=>none
  | _=>none
 | .rsT t=>match look s.T t with
  | some (some (.ws c))=>match look s.H c with
   | some (.rows tr l)=>k { T:=(t,some (.rs tr.length c 0 l.length none))::s.T,H:=s.H,nb:=s.nb,lo:=s.lo,ro:=s.ro,rb:=s.rb }
   | _=>none
  | some (some (.rs z c j n (some _)))=>k { T:=(t,some (.rs z c j n none))::s.T,H:=s.H,nb:=s.nb,lo:=s.lo,ro:=s.ro,rb:=s.rb }
  | some (some (.rs _ _ _ _ none))=>k s
  | _=>none
 | .rsH b i=>match look s.H b with
  | some (.cells l)=>match l[i]? with
   | some (.ws c)=>match look s.H c with
    | some (.rows tr m)=>k { T:=s.T,H:=(b,.cells (l.set i (.rs tr.length c 0 m.length none)))::s.H,nb:=s.nb,lo:=s.lo,ro:=s.ro,rb:=s.rb }
    | _=>none
   | some (.rs z c j n (some _))=>k { T:=s.T,H:=(b,.cells (l.set i (.rs z c j n none)))::s.H,nb:=s.nb,lo:=s.lo,ro:=s.ro,rb:=s.rb }
   | some (.rs _ _ _ _ none)=>k s
   | _=>none
  | _=>none
def G5 {α:Type}:List Fix->St->(St->Option α)->Option α
 | [],s,k=>k s
 | f::l,s,k=>fixK f s λs=>G5 l s k
theorem Hg {α:Type} {nb:Nat} {H:List (Nat×Blk)}:∀{l:List Nat} {k:List (Nat×Blk)->Option α} {z:α},OR nb H l k=some z->
  ∃d,k d=some z/\∀b blk,look d b=some blk->look H b=some blk/\Blk.lt nb blk=true/\b<nb
 | [],k,z,h=>⟨[],h,λt v h=>by cases h⟩
 | b::l,k,z,h=>by
  simp only [OR] at h;split at h
  ·rename_i blk f;split at h
   ·rename_i a;simp only [aA] at a;obtain ⟨d,i,g⟩:=Hg h;refine ⟨_,i,λc x hc=>?_⟩;rw [aY] at hc;split at hc
    ·rename_i e;subst e;simp only [av] at hc;subst hc;exact ⟨f,a.1,aL a.2⟩
    ·exact g c x hc
   ·cases h
  ·cases h
def Weak (s s':St):Prop:=∀(n:Nat) (ι0 ι:Inj) (w0:Base) (a:Act) (w:World),Inv n ι0 w0 ι s a w->∃b,Inv n ι0 w0 b s' a w
theorem Weak.refl (s:St):Weak s s:=λ_ _ ι _ _ _ h=>⟨ι,h⟩
theorem Weak.trans {a b c:St} (h:Weak a b) (C:Weak b c):Weak a c:=λn ι0 ι w0 ac w E=>
 let ⟨ι1,h1⟩:=h n ι0 ι w0 ac w E
 C n ι0 ι1 w0 ac w h1
theorem Inv.phantom {n:Nat} {ι0 ι:Inj} {w0:Base} {s:St} {a:Act} {w:World} (C:Inv n ι0 w0 ι s a w) {g:Nat} (E:s.nb<=g) (tr:List Lf):
  Inv n ι0 w0 (upd ι g none) { T:=s.T,H:=(g,.rows tr [])::s.H,nb:=g+1,lo:=s.lo,ro:=s.ro,rb:=s.rb } a w:=
 C.phantom' (C.fresh g E) (by omega) (Nat.lt_succ_self g) tr
theorem Inv.setT {n:Nat} {ι0 ι:Inj} {w0:Base} {s:St} {a:Act} {w:World} (C:Inv n ι0 w0 ι s a w) {t:Nat} {u v:V} (J:look s.T t=some (some u)) (E:∀x,VR ι u x->VR ι v x):
  Inv n ι0 w0 ι { T:=(t,some v)::s.T,H:=s.H,nb:=s.nb,lo:=s.lo,ro:=s.ro,rb:=s.rb } a w:=by
 refine ⟨C.size,C.defers,λQ F h=>?_,C.mem,C.ext,C.new,C.fr,C.low,C.fz,C.gl⟩;rw [aY] at h;split at h
 ·rename_i e;subst e;simp only [av] at h;subst h;obtain ⟨x,G,O⟩:=C.tmps t u J;exact ⟨x,G,E x O⟩
 ·exact C.tmps Q F h
theorem Inv.setH {n:Nat} {ι0 ι:Inj} {w0:Base} {s:St} {a:Act} {w:World} (C:Inv n ι0 w0 ι s a w) {b i:Nat} {l:List V} {u v:V} (Q:look s.H b=some (.cells l)) (hi:l[i]?=some u) (J:∀x,VR ι u x->VR ι v x):
  Inv n ι0 w0 ι { T:=s.T,H:=(b,.cells (l.set i v))::s.H,nb:=s.nb,lo:=s.lo,ro:=s.ro,rb:=s.rb } a w:=by
 refine ⟨C.size,C.defers,C.tmps,⟨C.mem.inj,C.mem.low,C.mem.dom,λc y h U=>?_⟩,C.ext,C.new,C.fr,C.low,C.fz,C.gl⟩;rw [aY] at h;split at h
 ·rename_i e;subst e;simp only [av] at h;subst h;obtain ⟨q,F,e,fr,O,W,G,X⟩:=ru C.mem Q;refine .inl ⟨q,_,O,W,F,e,fr,rfl,?_,X⟩;obtain ⟨x,hx,E⟩:=G.get hi;have:=G.set i (J x E);rwa [show F.toList.set i x=F.toList from by
   apply CS;intro j;rw [List.getElem?_set];split
   ·rename_i e;subst e;split
    ·exact hx.symm
    ·rename_i Y;rw [gU (by omega)] at hx;cases hx
   ·rfl] at this
 ·exact C.mem.blk c y h U
theorem VY {ι:Inj} {H:List (Nat×Blk)} {nb c:Nat} {w:World} (h:WR ι H nb w) {t:List Lf} {l:List (den t)} (d:look H c=some (.rows t l)):∀x,VR ι (.ws c) x->VR ι (.rs t.length c 0 l.length none) x:=by
 intro x hx;simp only [VR] at hx ⊢;rcases jz h d with ⟨q,j,n,fr,b,i,g,m,_⟩ | ⟨b,rfl⟩
 ·rcases hx with ⟨e,a,rfl⟩ | ⟨a,_⟩
  ·rw [a] at b;cases b;exact .inl ⟨q,q.k,q.o,a,⟨by omega,ky⟩,λ_=>by omega,by rw [g]⟩
  ·rw [a] at b;cases b
 ·rcases hx with ⟨e,a,_⟩ | ⟨a,f,rfl⟩
  ·rw [a] at b;cases b
  ·exact .inr ⟨a,⟨rfl,ky⟩,f,rfl⟩
theorem Q1 {ι:Inj} {z c j n m:Nat}:∀x,VR ι (.rs z c j n (some m)) x->VR ι (.rs z c j n none) x:=by
 intro x hx;simp only [VR] at hx ⊢;rcases hx with ⟨q,cp,o,d,a,b⟩ | ⟨d,a,b⟩
 ·exact .inl ⟨q,cp,o,d,⟨a.1,ky⟩,b⟩
 ·exact .inr ⟨d,⟨a.1,ky⟩,b⟩
theorem Ur {α:Type} {f:Fix} {s:St} {k:St->Option α} {z:α} (h:fixK f s k=some z):∃s',k s'=some z/\Weak s s':=by
 unfold fixK at h;split at h
 ·rename_i t g tr;split at h
  ·rename_i p;split at h
   case h_2=>cases h
   rename_i o;have o:=aL o;refine ⟨_,h,λn ι0 ι w0 a w d=>⟨upd ι g none,?_⟩⟩;refine (d.phantom o tr).setT (u:=.sn) p λx hx=>?_;simp only [VR] at hx ⊢;exact .inr ⟨dF _ _ _,none,hx⟩
  ·exact ⟨s,h,Weak.refl s⟩
  ·cases h
 ·rename_i b i g tr;split at h
  case h_2=>cases h
  rename_i l e;split at h
  ·rename_i hi;split at h
   case h_2=>cases h
   rename_i o;have o:=aL o;refine ⟨_,h,λn ι0 ι w0 a w d=>⟨upd ι g none,?_⟩⟩;have r:b≠g:=by
    rintro rfl;obtain ⟨q,_,_,_,v,_⟩:=ru d.mem e;have:=d.mem.low b _ v;omega
   refine (d.phantom o tr).setH (u:=.sn) (by simp only [aY];rw [ab (Ne.symm r)];exact e) hi λx hx=>?_;simp only [VR] at hx ⊢;exact .inr ⟨dF _ _ _,none,hx⟩
  ·exact ⟨s,h,Weak.refl s⟩
  ·cases h
 ·rename_i t;split at h
  ·rename_i c p;split at h
   case h_2=>cases h
   rename_i tr l e;exact ⟨_,h,λn ι0 ι w0 a w d=>⟨ι,d.setT p (VY d.mem e)⟩⟩
  ·rename_i z c j n m p;exact ⟨_,h,λn ι0 ι w0 a w d=>⟨ι,d.setT p Q1⟩⟩
  ·exact ⟨s,h,Weak.refl s⟩
  ·cases h
 ·rename_i b i;split at h
  case h_2=>cases h
  rename_i l e;split at h
  ·rename_i c hi;split at h
   case h_2=>cases h
   rename_i tr m hc;exact ⟨_,h,λn ι0 ι w0 a w d=>⟨ι,d.setH e hi (VY d.mem hc)⟩⟩
  ·rename_i z c j n m' hi;exact ⟨_,h,λn ι0 ι w0 a w d=>⟨ι,d.setH e hi Q1⟩⟩
  ·exact ⟨s,h,Weak.refl s⟩
  ·cases h
theorem CW {α:Type}:∀{l:List Fix} {s:St} {k:St->Option α} {z:α},G5 l s k=some z->∃s',k s'=some z/\Weak s s'
 | [],s,k,z,h=>⟨s,h,Weak.refl s⟩
 | f::l,s,k,z,h=>by
  simp only [G5] at h;obtain ⟨g,e,b⟩:=Ur h;obtain ⟨d,c,a⟩:=CW e;exact ⟨d,c,b.trans a⟩
def au {X Y:Type} (step:X->Option (X⊕Y)):Nat->X->Option Y
 | 0,_=>none
 | n+1,x=>match step x with
  | some (.inl a)=>au step n a
  | some (.inr y)=>some y
  | none=>none
theorem Weak.post {s s':St} (h:Weak s s') {n:Nat} {ι0 ι:Inj} {w0:Base} {a:Act} {w:World} (G:Inv n ι0 w0 ι s a w) {ex:Ex} {e:Exit} (E:ExR ι ex e)
  (F:∀v,ex=.pan v->V.flat v=true):∃C,ExR C ex e/\Inv n ι0 w0 C s' a w:=by
 obtain ⟨C,J⟩:=h n ι0 ι w0 a w G;refine ⟨C,?_,J⟩;cases ex with
 | pan v=>
  obtain ⟨x,rfl,hx⟩:=E;exact ⟨x,rfl,VR.flat v x (F v rfl) hx⟩
 | _=>exact E
theorem RL {X Y:Type} {E:List Ent} (D:∀x∈E,fW P x) {L:List Sub} {n:Nat} {c:AC} (B:jJ P n L c) {emb:X->St} {out:Y->Ex×St} {step:X->Option (X⊕Y)} {rd:Ex->St->Option (X⊕Y)}
  (hx:∀ex s x,rd ex s=some (.inl x)->ex=.normal/\Weak s (emb x)) (hy:∀ex s y,rd ex s=some (.inr y)->ex≠.normal/\ex=(out y).1/\Weak s (out y).2/\∀v,ex=.pan v->V.flat v=true)
  (C:∀x,run P E L n c (emb x) rd=step x):∀(m:Nat) (x:X) (y:Y),au step m x=some y->
   SemC P n (.loop c.code) (emb x) λex s=>ex=(out y).1/\s=(out y).2:=by
 intro m x y h ι0 w0 ι a w A;refine wp_loop_rounds m ?_
 induction m generalizing x ι a w with
 | zero=>cases h
 | succ m ih=>
  rw [rounds_succ];simp only [au] at h;cases hs:step x with
  | none=>rw [hs] at h;cases h
  | some r=>
   rw [hs] at h;refine uJ ?_ (pJ D c _ _ r B (by rw [C x];exact hs) ι0 w0 ι a w A);rintro e l w' ⟨ex,s,g,b,q,t⟩;cases r with
   | inl p=>
    obtain ⟨rfl,j⟩:=hx ex s p t;simp only [ExR] at b;subst b;obtain ⟨d,o⟩:=j n ι0 g w0 l w' q;exact ih p h d l w' o
   | inr f=>
    obtain ⟨k,z,j,F⟩:=hy ex s f t;simp only [av] at h;subst h;obtain ⟨d,o,u⟩:=j.post q b F;refine (?_:Post n ι0 w0 (λex s=>ex=(out f).1/\s=(out f).2) e l w'->_) ⟨ex,_,d,o,u,z,rfl⟩;cases ex with
    | normal=>exact absurd rfl k
    | exit i=>simp only [ExR] at b;subst b;exact λh=>h
    | ret=>simp only [ExR] at b;subst b;exact λh=>h
    | pan v=>obtain ⟨_,rfl,_⟩:=b;exact λh=>h
theorem SemC.weak {n:Nat} {c:Code} {s s':St} {E:Ex->St->Prop} (h:Weak s s') (J:SemC P n c s' E):SemC P n c s E:=by
 intro ι0 w0 ι a w G;obtain ⟨C,F⟩:=h n ι0 ι w0 a w G;exact J ι0 w0 C a w F
theorem SemC.mono {n:Nat} {c:Code} {s:St} {E C:Ex->St->Prop} (h:SemC P n c s E) (hi:∀ex s,E ex s->C ex s):SemC P n c s C:=
 λι0 w0 ι a w G=>uJ (λ_ _ _ ⟨ex,s,ι,O,J,F⟩=>⟨ex,s,ι,O,J,hi ex s F⟩) (h ι0 w0 ι a w G)
def subE {X Y:Type} (m:Nat) (rd:St->Option X) (f:X->Option Y) (a:(α:Type)->Y->(Ex->St->Option α)->Option α):Sub:=
 ⟨m,λα s k=>ob (rd s) λx=>ob (f x) λy=>a α y k⟩
theorem Nk {α X Y:Type} {n m:Nat} {c:Code} {rd:St->Option X} {f:X->Option Y} {a:(α:Type)->Y->(Ex->St->Option α)->Option α} {out:Y->Ex×St} (i:∀α y k,a α y k=k (out y).1 (out y).2) {emb:X->St} (b:∀s x,rd s=some x->Weak s (emb x))
  (d:∀x y,f x=some y->SemC P n c (emb x) λex s=>ex=(out y).1/\s=(out y).2) {s:St} {k:Ex->St->Option α} {z:α} (h:(subE m rd f a).e α s k=some z):
  SemC P n c s λex s'=>k ex s'=some z:=by
 simp only [subE] at h;obtain ⟨x,o,h⟩:=aw h;obtain ⟨y,g,h⟩:=aw h;rw [i] at h;exact SemC.weak (b s x o) ((d x y g).mono λex s ⟨l,j⟩=>by rw [l,j];exact h)
def retX {R:Type} (a:V->Option R):Bool->V->St->Option R
 | false,v,_=>cond (V.flat v) (a v) none
 | true,_,_=>none
theorem Qe {R:Type} {k:V->Option R} {enc:R->V} (g:∀v r,k v=some r->v=enc r) {E:List Ent} (t:∀x∈E,fW P x) {L:List Sub} {f:Nat} {fn:Func} {c:Code} {ac:AC}
  (p:P.funcs[f]?=some fn) (y:fn.body=some c) (hc:ac.code=c) (m:jJ P fn.ntmps L ac) {args:List V} {r:R} (l:Nat.ble args.length fn.ntmps=true)
  (h:run P E L fn.ntmps ac ⟨tK args 0,[],0,0,0,0⟩ (finK P fn.results.toList (retX k))=some r):k7 P f args (enc r):=by
 intro w o A hx;refine (L8 t p y hc m l h gY w o (WR.nothing w) (λ_ _ h=>by cases h) (A.mono λb q h=>by have:=qo h;cases this) hx).mono λe w' ⟨pan,u,s,ι,a,_,_,_,_,n,i⟩=>?_;cases pan with
 | true=>cases a
 | false=>
  simp only [retX] at a;obtain ⟨d,a⟩:=dZ a;have z:=g u r a;subst z;cases e with
  | returned x=>exact ⟨x,rfl,VR.flat _ _ d i.2,KX n⟩
  | panicked j=>exact absurd i.1 (by simp)
  | outgrown=>exact i.elim
def Ds {A R:Type} (f:Nat) (b:List V->Option A) (sh:A->Option R) (enc:R->V):Ent:=
 ⟨f,λ_ args _ _ k=>ob (b args) λa=>ob (sh a) λr=>k { val:=enc r }⟩
theorem uu {A R:Type} {f:Nat} {j:List V->Option A} {sh:A->Option R} {enc:R->V} {arg:A->List V} (b:kM P f) (e:∀l a,j l=some a->l=arg a)
  (g:∀a,V.flats (arg a)=true) (h:∀a r,sh a=some r->k7 P f (arg a) (enc r)):fW P (Ds f j sh enc):=by
 intro α args H fr k z i;simp only [Ds] at i;obtain ⟨a,n,c⟩:=aw i;obtain ⟨r,m,d⟩:=aw c;clear i c;have:=e args a n;subst this;exact ⟨_,d,λo _=>.inl ⟨b,(h a r m).call (g a) o fr⟩⟩
def subs:AC->List (Nat×AC)
 | .seq a b | .cond _ a b=>subs a++subs b
 | .block _ a | .loop a | .scope a=>subs a
 | .sub m c=>[(m,c)]
 | _=>[]
def getS:List (Nat×AC)->Nat->AC
 | [],_=>.skip
 | (k,c)::l,m=>cond (Nat.beq k m) c (getS l m)
def AC.body:AC->AC
 | .loop c=>c
 | c=>c
def Yp (P:Program) (n:Nat) (L:List Sub) (m:Nat) (c:AC):Prop:=
 ∀(α:Type) (s:St) (k:Ex->St->Option α) (z:α),Jr α m s k L=some z->SemC P n c.code s λex s'=>k ex s'=some z
theorem nv {n:Nat} {L:List Sub}:∀(c:AC),(∀p∈subs c,Yp P n L p.1 p.2)->jJ P n L c
 | .seq a b,h=>⟨nv a λp hp=>h p (by simp [subs,hp]),nv b λp hp=>h p (by simp [subs,hp])⟩
 | .cond c a b,h=>⟨nv a λp hp=>h p (by simp [subs,hp]),nv b λp hp=>h p (by simp [subs,hp])⟩
 | .block _ a,h=>by simp only [jJ];exact nv a λp hp=>h p (by simp [subs,hp])
 | .loop a,h=>by simp only [jJ];exact nv a λp hp=>h p (by simp [subs,hp])
 | .scope a,h=>by simp only [jJ];exact nv a λp hp=>h p (by simp [subs,hp])
 | .sub m c,h=>h (m,c) (by simp [subs])
 | .skip,_ | .ret,_ | .exit _,_ | .reg _ _,_ | .draw _ _,_ | .bad _,_ | .label _,_=>by simp [jJ]
def vH (f:Func):Code:=match f.body with | some c=>c | none=>.skip
def acOf (f:Func):AC:=(sZ (vH f) 0).1
def mb (l:List Nat):AC->AC
 | .seq a b=>.seq (mb l a) (mb l b)
 | .cond c a b=>.cond c (mb l a) (mb l b)
 | .block id a=>.block id (mb l a)
 | .loop a=>.loop (mb l a)
 | .scope a=>.scope (mb l a)
 | .sub m c=>cond (l.any (Nat.beq m)) (mb l c) (.sub m (mb l c))
 | c=>c
theorem iD (l:List Nat):∀c:AC,(mb l c).code=c.code
 | .seq a b=>by simp [mb,AC.code,iD l a,iD l b]
 | .cond c a b=>by simp [mb,AC.code,iD l a,iD l b]
 | .block id a=>by simp [mb,AC.code,iD l a]
 | .loop a=>by simp [mb,AC.code,iD l a]
 | .scope a=>by simp [mb,AC.code,iD l a]
 | .sub m c=>by
  simp only [mb];cases l.any (Nat.beq m)<;>simp [AC.code,iD l c]
 | .skip | .ret | .exit _ | .reg _ _ | .draw _ _ | .bad _ | .label _=>rfl
def acU (l:List Nat) (f:Func):AC:=mb l (acOf f)
theorem Ei (f:Func):(acOf f).code=vH f:=kw _ _
theorem HT (l:List Nat) (f:Func):(acU l f).code=vH f:=(iD l _).trans (Ei f)
end Go.Abs
