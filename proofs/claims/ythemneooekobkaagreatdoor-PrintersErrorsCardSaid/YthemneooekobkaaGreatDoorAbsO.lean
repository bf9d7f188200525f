
/- Loops by their rounds; functions by what their results read as.
   Conditions: none; generic over the program. -/
import Derived.Test.YthemneooekobkaaGreatDoorAbsK
set_option linter.unusedSimpArgs false
set_option linter.unusedVariables false
namespace Go.Abs
variable {P:Program}
mutual
def V.lt (nb:Nat):V->Bool
 | .p c _ | .sl c _ _ _ | .pr _ c _ _ | .ws c | .rs _ c _ _ _ | .mp c=>Nat.blt c nb
 | .fn _ l | .ag l | .tp l=>V.lts nb l
 | .it _ v=>V.lt nb v
 | .b _ | .i _ _ | .s _ | .pn | .sn | .nf | .ni | .ai _ _ _ | .unk=>true
def V.lts (nb:Nat):List V->Bool
 | []=>true
 | v::l=>V.lt nb v&&V.lts nb l
end
def Blk.lt (nb:Nat):Blk->Bool
 | .cells l=>V.lts nb l
 | _=>true
def La {α:Type} (nb:Nat) (H:List (Nat×Blk)):List Nat->(List (Nat×Blk)->Option α)->Option α
 | [],k=>k []
 | b::l,k=>match look H b with
  | some blk=>match Blk.lt nb blk&&Nat.blt b nb with
   | true=>La nb H l λm=>k ((b,blk)::m)
   | false=>none
  | none=>none
inductive Fix where
 | nilT (t g:Nat) (tr:List Lf)
 | nilH (b i g:Nat) (tr:List Lf)
 | rsT (t:Nat)
 | rsH (b i:Nat)
def fixK {α:Type} (f:Fix) (s:St) (k:St->Option α):Option α:=
 match f with
 | .nilT t g tr=>match look s.T t with
  | some (some .sn)=>match Nat.ble s.nb g with
   | true=>k { T:=(t,some (.ws g))::s.T,H:=(g,.rows tr [])::s.H,nb:=g+1,lo:=s.lo,ro:=s.ro,rb:=s.rb }
   | false=>none
  | some (some (.ws _))=>k s
  | _=>none
 | .nilH b i g tr=>match look s.H b with
  | some (.cells l)=>match l[i]? with
   | some .sn=>match Nat.ble s.nb g with
    | true=>k { T:=s.T,H:=(b,.cells (l.set i (.ws g)))::(g,.rows tr [])::s.H,nb:=g+1,lo:=s.lo,ro:=s.ro,rb:=s.rb }
    | false=>none
   | some (.ws _)=>k s
   | _=>none
  | _=>none
 | .rsT t=>match look s.T t with
  | some (some (.ws c))=>match look s.H c with
   | some (.rows tr l)=>k { T:=(t,some (.rs tr.length c 0 l.length none))::s.T,H:=s.H,nb:=s.nb,lo:=s.lo,ro:=s.ro,rb:=s.rb }
   | _=>none
  | some (some (.rs z c j n (some _)))=>k { T:=(t,some (.rs z c j n none))::s.T,H:=s.H,nb:=s.nb,lo:=s.lo,ro:=s.ro,rb:=s.rb }
  | some (some (.rs _ _ _ _ none))=>k s
  | _=>none
 | .rsH b i=>match look s.H b with
  | some (.cells l)=>match l[i]? with
   | some (.ws c)=>match look s.H c with
    | some (.rows tr m)=>k { T:=s.T,H:=(b,.cells (l.set i (.rs tr.length c 0 m.length none)))::s.H,nb:=s.nb,lo:=s.lo,ro:=s.ro,rb:=s.rb }
    | _=>none
   | some (.rs z c j n (some _))=>k { T:=s.T,H:=(b,.cells (l.set i (.rs z c j n none)))::s.H,nb:=s.nb,lo:=s.lo,ro:=s.ro,rb:=s.rb }
   | some (.rs _ _ _ _ none)=>k s
   | _=>none
  | _=>none
def Dm {α:Type}:List Fix->St->(St->Option α)->Option α
 | [],s,k=>k s
 | f::l,s,k=>fixK f s λs=>Dm l s k
theorem DX {α:Type} {nb:Nat} {H:List (Nat×Blk)}:∀{l:List Nat} {k:List (Nat×Blk)->Option α} {z:α},La nb H l k=some z->
  ∃d,k d=some z/\∀b blk,look d b=some blk->look H b=some blk/\Blk.lt nb blk=true/\b<nb
 | [],k,z,h=>⟨[],h,λt v h=>by cases h⟩
 | b::l,k,z,h=>by
  simp only [La] at h;split at h
  ·rename_i blk g;split at h
   ·rename_i a;simp only [ay] at a;obtain ⟨d,i,f⟩:=DX h;refine ⟨_,i,λc x hc=>?_⟩;rw [aP] at hc;split at hc
    ·rename_i e;subst e;simp only [am] at hc;subst hc;exact ⟨g,a.1,aD a.2⟩
    ·exact f c x hc
   ·cases h
  ·cases h
def Weak (s c:St):Prop:=∀(n:Nat) (ι0 ι:Inj) (w0:Base) (a:Act) (w:World),Inv n ι0 w0 ι s a w->∃b,Inv n ι0 w0 b c a w
theorem Weak.refl (s:St):Weak s s:=λ_ _ ι _ _ _ h=>⟨ι,h⟩
theorem Weak.trans {a b c:St} (h:Weak a b) (A:Weak b c):Weak a c:=λn ι0 ι w0 ac w C=>
 let ⟨ι1,h1⟩:=h n ι0 ι w0 ac w C
 A n ι0 ι1 w0 ac w h1
theorem Inv.phantom {n:Nat} {ι0 ι:Inj} {w0:Base} {s:St} {a:Act} {w:World} (A:Inv n ι0 w0 ι s a w) {g:Nat} (C:s.nb<=g) (tr:List Lf):
  Inv n ι0 w0 (upd ι g none) { T:=s.T,H:=(g,.rows tr [])::s.H,nb:=g+1,lo:=s.lo,ro:=s.ro,rb:=s.rb } a w:=
 A.phantom' (A.fresh g C) (by omega) (Nat.lt_succ_self g) tr
theorem Inv.setT {n:Nat} {ι0 ι:Inj} {w0:Base} {s:St} {a:Act} {w:World} (A:Inv n ι0 w0 ι s a w) {t:Nat} {u v:V} (G:look s.T t=some (some u)) (J:∀x,VR ι u x->VR ι v x):
  Inv n ι0 w0 ι { T:=(t,some v)::s.T,H:=s.H,nb:=s.nb,lo:=s.lo,ro:=s.ro,rb:=s.rb } a w:=by
 refine ⟨A.size,A.defers,λF E h=>?_,A.mem,A.ext,A.new,A.fr,A.low,A.fz,A.gl⟩;rw [aP] at h;split at h
 ·rename_i e;subst e;simp only [am] at h;subst h;obtain ⟨x,M,C⟩:=A.tmps t u G;exact ⟨x,M,J x C⟩
 ·exact A.tmps F E h
theorem Inv.setH {n:Nat} {ι0 ι:Inj} {w0:Base} {s:St} {a:Act} {w:World} (A:Inv n ι0 w0 ι s a w) {b i:Nat} {l:List V} {u v:V} (O:look s.H b=some (.cells l)) (hi:l[i]?=some u) (Q:∀x,VR ι u x->VR ι v x):
  Inv n ι0 w0 ι { T:=s.T,H:=(b,.cells (l.set i v))::s.H,nb:=s.nb,lo:=s.lo,ro:=s.ro,rb:=s.rb } a w:=by
 refine ⟨A.size,A.defers,A.tmps,⟨A.mem.inj,A.mem.low,A.mem.dom,λc y h J=>?_⟩,A.ext,A.new,A.fr,A.low,A.fz,A.gl⟩;rw [aP] at h;split at h
 ·rename_i e;subst e;simp only [am] at h;subst h;obtain ⟨q,C,e,fr,W,G,F,U⟩:=oL A.mem O;refine .inl ⟨q,_,W,G,C,e,fr,rfl,?_,U⟩;obtain ⟨x,hx,E⟩:=F.get hi;have:=F.set i (Q x E);rwa [show C.toList.set i x=C.toList from by
   apply xj;intro j;rw [List.getElem?_set];split
   ·rename_i e;subst e;split
    ·exact hx.symm
    ·rename_i M;rw [eF (by omega)] at hx;cases hx
   ·rfl] at this
 ·exact A.mem.blk c y h J
theorem RL {ι:Inj} {H:List (Nat×Blk)} {nb c:Nat} {w:World} (h:WR ι H nb w) {t:List Lf} {l:List (den t)} (f:look H c=some (.rows t l)):∀x,VR ι (.ws c) x->VR ι (.rs t.length c 0 l.length none) x:=by
 intro x hx;simp only [VR] at hx ⊢;rcases iv h f with ⟨q,i,j,fr,b,n,g,m,_⟩ | ⟨b,rfl⟩
 ·rcases hx with ⟨e,a,rfl⟩ | ⟨a,_⟩
  ·rw [a] at b;cases b;exact .inl ⟨q,q.k,q.o,a,⟨by omega,jo⟩,λ_=>by omega,by rw [g]⟩
  ·rw [a] at b;cases b
 ·rcases hx with ⟨e,a,_⟩ | ⟨a,d,rfl⟩
  ·rw [a] at b;cases b
  ·exact .inr ⟨a,⟨rfl,jo⟩,d,rfl⟩
theorem MQ {ι:Inj} {z c j n m:Nat}:∀x,VR ι (.rs z c j n (some m)) x->VR ι (.rs z c j n none) x:=by
 intro x hx;simp only [VR] at hx ⊢;rcases hx with ⟨q,cp,o,d,a,b⟩ | ⟨d,a,b⟩
 ·exact .inl ⟨q,cp,o,d,⟨a.1,jo⟩,b⟩
 ·exact .inr ⟨d,⟨a.1,jo⟩,b⟩
theorem PK {α:Type} {f:Fix} {s:St} {k:St->Option α} {z:α} (h:fixK f s k=some z):∃v,k v=some z/\Weak s v:=by
 unfold fixK at h;split at h
 ·rename_i t g tr;split at h
  ·rename_i p;split at h
   case h_2=>cases h
   rename_i e;have e:=aD e;refine ⟨_,h,λn ι0 ι w0 a w d=>⟨upd ι g none,?_⟩⟩;refine (d.phantom e tr).setT (u:=.sn) p λx hx=>?_;simp only [VR] at hx ⊢;exact .inr ⟨cT _ _ _,none,hx⟩
  ·exact ⟨s,h,Weak.refl s⟩
  ·cases h
 ·rename_i b i g tr;split at h
  case h_2=>cases h
  rename_i l o;split at h
  ·rename_i hi;split at h
   case h_2=>cases h
   rename_i e;have e:=aD e;refine ⟨_,h,λn ι0 ι w0 a w d=>⟨upd ι g none,?_⟩⟩;have r:b≠g:=by
    rintro rfl;obtain ⟨q,_,_,_,y,_⟩:=oL d.mem o;have:=d.mem.low b _ y;omega
   refine (d.phantom e tr).setH (u:=.sn) (by simp only [aP];rw [ab (Ne.symm r)];exact o) hi λx hx=>?_;simp only [VR] at hx ⊢;exact .inr ⟨cT _ _ _,none,hx⟩
  ·exact ⟨s,h,Weak.refl s⟩
  ·cases h
 ·rename_i t;split at h
  ·rename_i c p;split at h
   case h_2=>cases h
   rename_i tr l o;exact ⟨_,h,λn ι0 ι w0 a w d=>⟨ι,d.setT p (RL d.mem o)⟩⟩
  ·rename_i z c j n m p;exact ⟨_,h,λn ι0 ι w0 a w d=>⟨ι,d.setT p MQ⟩⟩
  ·exact ⟨s,h,Weak.refl s⟩
  ·cases h
 ·rename_i b i;split at h
  case h_2=>cases h
  rename_i l o;split at h
  ·rename_i c hi;split at h
   case h_2=>cases h
   rename_i tr m hc;exact ⟨_,h,λn ι0 ι w0 a w d=>⟨ι,d.setH o hi (RL d.mem hc)⟩⟩
  ·rename_i z c j n m' hi;exact ⟨_,h,λn ι0 ι w0 a w d=>⟨ι,d.setH o hi MQ⟩⟩
  ·exact ⟨s,h,Weak.refl s⟩
  ·cases h
theorem zZ {α:Type}:∀{l:List Fix} {s:St} {k:St->Option α} {z:α},Dm l s k=some z->∃a,k a=some z/\Weak s a
 | [],s,k,z,h=>⟨s,h,Weak.refl s⟩
 | f::l,s,k,z,h=>by
  simp only [Dm] at h;obtain ⟨i,g,b⟩:=PK h;obtain ⟨c,e,d⟩:=zZ g;exact ⟨c,e,b.trans d⟩
def aw {X Y:Type} (step:X->Option (X⊕Y)):Nat->X->Option Y
 | 0,_=>none
 | n+1,x=>match step x with
  | some (.inl a)=>aw step n a
  | some (.inr y)=>some y
  | none=>none
theorem Weak.post {s E:St} (h:Weak s E) {n:Nat} {ι0 ι:Inj} {w0:Base} {a:Act} {w:World} (F:Inv n ι0 w0 ι s a w) {ex:Ex} {e:Exit} (C:ExR ι ex e)
  (G:∀v,ex=.pan v->V.flat v=true):∃A,ExR A ex e/\Inv n ι0 w0 A E a w:=by
 obtain ⟨A,J⟩:=h n ι0 ι w0 a w F;refine ⟨A,?_,J⟩;cases ex with
 | pan v=>
  obtain ⟨x,rfl,hx⟩:=C;exact ⟨x,rfl,VR.flat v x (G v rfl) hx⟩
 | _=>exact C
theorem OO {X Y:Type} {E:List Ent} (D:∀x∈E,ek P x) {L:List Sub} {n:Nat} {c:AC} (u:iW P n L c) {emb:X->St} {out:Y->Ex×St} {step:X->Option (X⊕Y)} {rd:Ex->St->Option (X⊕Y)}
  (hx:∀ex s x,rd ex s=some (.inl x)->ex=.normal/\Weak s (emb x)) (hy:∀ex s y,rd ex s=some (.inr y)->ex≠.normal/\ex=(out y).1/\Weak s (out y).2/\∀v,ex=.pan v->V.flat v=true)
  (C:∀x,run P E L n c (emb x) rd=step x):∀(m:Nat) (x:X) (y:Y),aw step m x=some y->
   SemC P n (.loop c.code) (emb x) λex s=>ex=(out y).1/\s=(out y).2:=by
 intro m x y h ι0 w0 ι a w A;refine wp_loop_rounds m ?_
 induction m generalizing x ι a w with
 | zero=>cases h
 | succ m ih=>
  rw [rounds_succ];simp only [aw] at h;cases hs:step x with
  | none=>rw [hs] at h;cases h
  | some r=>
   rw [hs] at h;refine rA ?_ (mL D c _ _ r u (by rw [C x];exact hs) ι0 w0 ι a w A);rintro e k w' ⟨ex,s,f,b,p,q⟩;cases r with
   | inl t=>
    obtain ⟨rfl,l⟩:=hx ex s t q;simp only [ExR] at b;subst b;obtain ⟨d,o⟩:=l n ι0 f w0 k w' p;exact ih t h d k w' o
   | inr j=>
    obtain ⟨g,B,l,z⟩:=hy ex s j q;simp only [am] at h;subst h;obtain ⟨d,o,F⟩:=l.post p b z;refine (?_:Post n ι0 w0 (λex s=>ex=(out j).1/\s=(out j).2) e k w'->_) ⟨ex,_,d,o,F,B,rfl⟩;cases ex with
    | normal=>exact absurd rfl g
    | exit i=>simp only [ExR] at b;subst b;exact λh=>h
    | ret=>simp only [ExR] at b;subst b;exact λh=>h
    | pan v=>obtain ⟨_,rfl,_⟩:=b;exact λh=>h
theorem SemC.weak {n:Nat} {c:Code} {s E:St} {C:Ex->St->Prop} (h:Weak s E) (G:SemC P n c E C):SemC P n c s C:=by
 intro ι0 w0 ι a w F;obtain ⟨A,J⟩:=h n ι0 ι w0 a w F;exact G ι0 w0 A a w J
theorem SemC.mono {n:Nat} {c:Code} {s:St} {A C:Ex->St->Prop} (h:SemC P n c s A) (hi:∀ex s,A ex s->C ex s):SemC P n c s C:=
 λι0 w0 ι a w G=>rA (λ_ _ _ ⟨ex,s,ι,J,F,E⟩=>⟨ex,s,ι,J,F,hi ex s E⟩) (h ι0 w0 ι a w G)
def subE {X Y:Type} (m:Nat) (rd:St->Option X) (f:X->Option Y) (a:(α:Type)->Y->(Ex->St->Option α)->Option α):Sub:=
 ⟨m,λα s k=>ob (rd s) λx=>ob (f x) λy=>a α y k⟩
theorem HQ {α X Y:Type} {n m:Nat} {c:Code} {rd:St->Option X} {f:X->Option Y} {a:(α:Type)->Y->(Ex->St->Option α)->Option α} {out:Y->Ex×St} (i:∀α y k,a α y k=k (out y).1 (out y).2) {emb:X->St} (b:∀s x,rd s=some x->Weak s (emb x))
  (p:∀x y,f x=some y->SemC P n c (emb x) λex s=>ex=(out y).1/\s=(out y).2) {s:St} {k:Ex->St->Option α} {z:α} (h:(subE m rd f a).e α s k=some z):
  SemC P n c s λex j=>k ex j=some z:=by
 simp only [subE] at h;obtain ⟨x,o,h⟩:=au h;obtain ⟨y,g,h⟩:=au h;rw [i] at h;exact SemC.weak (b s x o) ((p x y g).mono λex s ⟨l,d⟩=>by rw [l,d];exact h)
def retX {R:Type} (a:V->Option R):Bool->V->St->Option R
 | false,v,_=>cond (V.flat v) (a v) none
 | true,_,_=>none
theorem KD {R:Type} {k:V->Option R} {enc:R->V} (d:∀v r,k v=some r->v=enc r) {E:List Ent} (z:∀x∈E,ek P x) {L:List Sub} {f:Nat} {fn:Func} {c:Code} {ac:AC}
  (A:P.funcs[f]?=some fn) (y:fn.body=some c) (hc:ac.code=c) (l:iW P fn.ntmps L ac) {args:List V} {r:R} (n:Nat.ble args.length fn.ntmps=true)
  (h:run P E L fn.ntmps ac ⟨qU args 0,[],0,0,0,0⟩ (finK P fn.results.toList (retX k))=some r):lC P f args (enc r):=by
 intro w p o hx;refine (GZ z A y hc l n h fm w p (WR.nothing w) (λ_ _ h=>by cases h) (o.mono λb q h=>by have:=nr h;cases this) hx).mono λe w' ⟨pan,u,s,ι,a,_,_,_,_,t,j⟩=>?_;cases pan with
 | true=>cases a
 | false=>
  simp only [retX] at a;obtain ⟨i,a⟩:=dk a;have m:=d u r a;subst m;cases e with
  | returned x=>exact ⟨x,rfl,VR.flat _ _ i j.2,G6 t⟩
  | panicked g=>exact absurd j.1 (by simp)
  | outgrown=>exact j.elim
def Aw {A R:Type} (f:Nat) (b:List V->Option A) (sh:A->Option R) (enc:R->V):Ent:=
 ⟨f,λ_ args _ _ k=>ob (b args) λa=>ob (sh a) λr=>k { val:=enc r }⟩
theorem rj {A R:Type} {f:Nat} {j:List V->Option A} {sh:A->Option R} {enc:R->V} {arg:A->List V} (c:jD P f) (e:∀l a,j l=some a->l=arg a)
  (i:∀a,V.flats (arg a)=true) (h:∀a r,sh a=some r->lC P f (arg a) (enc r)):ek P (Aw f j sh enc):=by
 intro α args H fr k z g;simp only [Aw] at g;obtain ⟨a,o,b⟩:=au g;obtain ⟨r,m,d⟩:=au b;clear g b;have:=e args a o;subst this;exact ⟨_,d,λn _=>.inl ⟨c,(h a r m).call (i a) n fr⟩⟩
def subs:AC->List (Nat×AC)
 | .seq a b | .cond _ a b=>subs a++subs b
 | .block _ a | .loop a | .scope a=>subs a
 | .sub m c=>[(m,c)]
 | _=>[]
def getS:List (Nat×AC)->Nat->AC
 | [],_=>.skip
 | (k,c)::l,m=>cond (Nat.beq k m) c (getS l m)
def AC.body:AC->AC
 | .loop c=>c
 | c=>c
def SI (P:Program) (n:Nat) (L:List Sub) (m:Nat) (c:AC):Prop:=
 ∀(α:Type) (s:St) (k:Ex->St->Option α) (z:α),FB α m s k L=some z->SemC P n c.code s λex a=>k ex a=some z
theorem lI {n:Nat} {L:List Sub}:∀(c:AC),(∀p∈subs c,SI P n L p.1 p.2)->iW P n L c
 | .seq a b,h=>⟨lI a λp hp=>h p (by simp [subs,hp]),lI b λp hp=>h p (by simp [subs,hp])⟩
 | .cond c a b,h=>⟨lI a λp hp=>h p (by simp [subs,hp]),lI b λp hp=>h p (by simp [subs,hp])⟩
 | .block _ a,h=>by simp only [iW];exact lI a λp hp=>h p (by simp [subs,hp])
 | .loop a,h=>by simp only [iW];exact lI a λp hp=>h p (by simp [subs,hp])
 | .scope a,h=>by simp only [iW];exact lI a λp hp=>h p (by simp [subs,hp])
 | .sub m c,h=>h (m,c) (by simp [subs])
 | .skip,_ | .ret,_ | .exit _,_ | .reg _ _,_ | .draw _ _,_ | .bad _,_ | .label _,_=>by simp [iW]
def tq (f:Func):Code:=match f.body with | some c=>c | none=>.skip
def acOf (f:Func):AC:=(qH (tq f) 0).1
def kQ (l:List Nat):AC->AC
 | .seq a b=>.seq (kQ l a) (kQ l b)
 | .cond c a b=>.cond c (kQ l a) (kQ l b)
 | .block id a=>.block id (kQ l a)
 | .loop a=>.loop (kQ l a)
 | .scope a=>.scope (kQ l a)
 | .sub m c=>cond (l.any (Nat.beq m)) (kQ l c) (.sub m (kQ l c))
 | c=>c
theorem gu (l:List Nat):∀c:AC,(kQ l c).code=c.code
 | .seq a b=>by simp [kQ,AC.code,gu l a,gu l b]
 | .cond c a b=>by simp [kQ,AC.code,gu l a,gu l b]
 | .block id a=>by simp [kQ,AC.code,gu l a]
 | .loop a=>by simp [kQ,AC.code,gu l a]
 | .scope a=>by simp [kQ,AC.code,gu l a]
 | .sub m c=>by
  simp only [kQ];cases l.any (Nat.beq m)<;>simp [AC.code,gu l c]
 | .skip | .ret | .exit _ | .reg _ _ | .draw _ _ | .bad _ | .label _=>rfl
def acU (l:List Nat) (f:Func):AC:=kQ l (acOf f)
theorem zU (f:Func):(acOf f).code=tq f:=jr _ _
theorem Fg (l:List Nat) (f:Func):(acU l f).code=tq f:=(gu l _).trans (zU f)
end Go.Abs
