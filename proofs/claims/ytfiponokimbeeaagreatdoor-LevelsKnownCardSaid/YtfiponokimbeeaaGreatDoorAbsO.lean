
/- Loops by their rounds; functions by what their results read as.
   Conditions: none; generic over the program. -/
import Derived.Test.YtfiponokimbeeaaGreatDoorAbsK
set_option linter.unusedSimpArgs false
set_option linter.unusedVariables false
namespace Go.Abs
variable {P:Program}
mutual
def V.lt (nb:Nat):V->Bool
 | .p c _ | .sl c _ _ _ | .pr _ c _ _ | .ws c | .rs _ c _ _ _ | .mp c=>Nat.blt c nb
 | .fn _ l | .ag l | .tp l=>V.lts nb l
 | .it _ v=>V.lt nb v
 | .b _ | .i _ _ | .s _ | .pn | .sn | .nf | .ni | .ai _ _ _ | .unk=>true
def V.lts (nb:Nat):List V->Bool
 | []=>true
 | v::l=>V.lt nb v&&V.lts nb l
end
def Blk.lt (nb:Nat):Blk->Bool
 | .cells l=>V.lts nb l
 | _=>true
def Nz {α:Type} (nb:Nat) (H:List (Nat×Blk)):List Nat->(List (Nat×Blk)->Option α)->Option α
 | [],k=>k []
 | b::l,k=>match look H b with
  | some blk=>match Blk.lt nb blk&&Nat.blt b nb with
   | true=>Nz nb H l λm=>k ((b,blk)::m)
   | false=>none
  | none=>none
inductive Fix where
 | nilT (t g:Nat) (tr:List Lf)
 | nilH (b i g:Nat) (tr:List Lf)
 | rsT (t:Nat)
 | rsH (b i:Nat)
def fixK {α:Type} (f:Fix) (s:St) (k:St->Option α):Option α:=
 match f with
 | .nilT t g tr=>match look s.T t with
  | some (some .sn)=>match Nat.ble s.nb g with
   | true=>k { T:=(t,some (.ws g))::s.T,H:=(g,.rows tr [])::s.H,nb:=g+1,lo:=s.lo,ro:=s.ro,rb:=s.rb }
   | false=>none
  | some (some (.ws _))=>k s
  | _=>none
 | .nilH b i g tr=>match look s.H b with
  | some (.cells l)=>match l[i]? with
   | some .sn=>match Nat.ble s.nb g with
    | true=>k { T:=s.T,H:=(b,.cells (l.set i (.ws g)))::(g,.rows tr [])::s.H,nb:=g+1,lo:=s.lo,ro:=s.ro,rb:=s.rb }
    | false=>none
   | some (.ws _)=>k s
   | _=>none
  | _=>none
 | .rsT t=>match look s.T t with
  | some (some (.ws c))=>match look s.H c with
   | some (.rows tr l)=>k { T:=(t,some (.rs tr.length c 0 l.length none))::s.T,H:=s.H,nb:=s.nb,lo:=s.lo,ro:=s.ro,rb:=s.rb }
   | _=>none
  | some (some (.rs z c j n (some _)))=>k { T:=(t,some (.rs z c j n none))::s.T,H:=s.H,nb:=s.nb,lo:=s.lo,ro:=s.ro,rb:=s.rb }
  | some (some (.rs _ _ _ _ none))=>k s
  | _=>none
 | .rsH b i=>match look s.H b with
  | some (.cells l)=>match l[i]? with
   | some (.ws c)=>match look s.H c with
    | some (.rows tr m)=>k { T:=s.T,H:=(b,.cells (l.set i (.rs tr.length c 0 m.length none)))::s.H,nb:=s.nb,lo:=s.lo,ro:=s.ro,rb:=s.rb }
    | _=>none
   | some (.rs z c j n (some _))=>k { T:=s.T,H:=(b,.cells (l.set i (.rs z c j n none)))::s.H,nb:=s.nb,lo:=s.lo,ro:=s.ro,rb:=s.rb }
   | some (.rs _ _ _ _ none)=>k s
   | _=>none
  | _=>none
def EK {α:Type}:List Fix->St->(St->Option α)->Option α
 | [],s,k=>k s
 | f::l,s,k=>fixK f s λs=>EK l s k
theorem Gi {α:Type} {nb:Nat} {H:List (Nat×Blk)}:∀{l:List Nat} {k:List (Nat×Blk)->Option α} {z:α},Nz nb H l k=some z->
  ∃d,k d=some z/\∀b blk,look d b=some blk->look H b=some blk/\Blk.lt nb blk=true/\b<nb
 | [],k,z,h=>⟨[],h,λt v h=>by cases h⟩
 | b::l,k,z,h=>by
  simp only [Nz] at h;split at h
  ·rename_i blk i;split at h
   ·rename_i a;simp only [az] at a;obtain ⟨d,f,g⟩:=Gi h;refine ⟨_,f,λc x hc=>?_⟩;rw [aR] at hc;split at hc
    ·rename_i e;subst e;simp only [ak] at hc;subst hc;exact ⟨i,a.1,aE a.2⟩
    ·exact g c x hc
   ·cases h
  ·cases h
def Weak (s s':St):Prop:=∀(n:Nat) (ι0 ι:Inj) (w0:Base) (a:Act) (w:World),Inv n ι0 w0 ι s a w->∃b,Inv n ι0 w0 b s' a w
theorem Weak.refl (s:St):Weak s s:=λ_ _ ι _ _ _ h=>⟨ι,h⟩
theorem Weak.trans {a b c:St} (h:Weak a b) (E:Weak b c):Weak a c:=λn ι0 ι w0 ac w C=>
 let ⟨ι1,h1⟩:=h n ι0 ι w0 ac w C
 E n ι0 ι1 w0 ac w h1
theorem Inv.phantom {n:Nat} {ι0 ι:Inj} {w0:Base} {s:St} {a:Act} {w:World} (C:Inv n ι0 w0 ι s a w) {g:Nat} (E:s.nb<=g) (tr:List Lf):
  Inv n ι0 w0 (upd ι g none) { T:=s.T,H:=(g,.rows tr [])::s.H,nb:=g+1,lo:=s.lo,ro:=s.ro,rb:=s.rb } a w:=
 C.phantom' (C.fresh g E) (by omega) (Nat.lt_succ_self g) tr
theorem Inv.setT {n:Nat} {ι0 ι:Inj} {w0:Base} {s:St} {a:Act} {w:World} (C:Inv n ι0 w0 ι s a w) {t:Nat} {u v:V} (E:look s.T t=some (some u)) (Q:∀x,VR ι u x->VR ι v x):
  Inv n ι0 w0 ι { T:=(t,some v)::s.T,H:=s.H,nb:=s.nb,lo:=s.lo,ro:=s.ro,rb:=s.rb } a w:=by
 refine ⟨C.size,C.defers,λJ G h=>?_,C.mem,C.ext,C.new,C.fr,C.low,C.fz,C.gl⟩;rw [aR] at h;split at h
 ·rename_i e;subst e;simp only [ak] at h;subst h;obtain ⟨x,F,O⟩:=C.tmps t u E;exact ⟨x,F,Q x O⟩
 ·exact C.tmps J G h
theorem Inv.setH {n:Nat} {ι0 ι:Inj} {w0:Base} {s:St} {a:Act} {w:World} (C:Inv n ι0 w0 ι s a w) {b i:Nat} {l:List V} {u v:V} (J:look s.H b=some (.cells l)) (hi:l[i]?=some u) (Y:∀x,VR ι u x->VR ι v x):
  Inv n ι0 w0 ι { T:=s.T,H:=(b,.cells (l.set i v))::s.H,nb:=s.nb,lo:=s.lo,ro:=s.ro,rb:=s.rb } a w:=by
 refine ⟨C.size,C.defers,C.tmps,⟨C.mem.inj,C.mem.low,C.mem.dom,λc y h W=>?_⟩,C.ext,C.new,C.fr,C.low,C.fz,C.gl⟩;rw [aR] at h;split at h
 ·rename_i e;subst e;simp only [ak] at h;subst h;obtain ⟨q,E,e,fr,O,U,G,Q⟩:=qj C.mem J;refine .inl ⟨q,_,O,U,E,e,fr,rfl,?_,Q⟩;obtain ⟨x,hx,F⟩:=G.get hi;have:=G.set i (Y x F);rwa [show E.toList.set i x=E.toList from by
   apply Bg;intro j;rw [List.getElem?_set];split
   ·rename_i e;subst e;split
    ·exact hx.symm
    ·rename_i X;rw [fW (by omega)] at hx;cases hx
   ·rfl] at this
 ·exact C.mem.blk c y h W
theorem UG {ι:Inj} {H:List (Nat×Blk)} {nb c:Nat} {w:World} (h:WR ι H nb w) {t:List Lf} {l:List (den t)} (d:look H c=some (.rows t l)):∀x,VR ι (.ws c) x->VR ι (.rs t.length c 0 l.length none) x:=by
 intro x hx;simp only [VR] at hx ⊢;rcases iH h d with ⟨q,i,m,fr,b,n,f,j,_⟩ | ⟨b,rfl⟩
 ·rcases hx with ⟨e,a,rfl⟩ | ⟨a,_⟩
  ·rw [a] at b;cases b;exact .inl ⟨q,q.k,q.o,a,⟨by omega,jq⟩,λ_=>by omega,by rw [f]⟩
  ·rw [a] at b;cases b
 ·rcases hx with ⟨e,a,_⟩ | ⟨a,g,rfl⟩
  ·rw [a] at b;cases b
  ·exact .inr ⟨a,⟨rfl,jq⟩,g,rfl⟩
theorem Oz {ι:Inj} {z c j n m:Nat}:∀x,VR ι (.rs z c j n (some m)) x->VR ι (.rs z c j n none) x:=by
 intro x hx;simp only [VR] at hx ⊢;rcases hx with ⟨q,cp,o,d,a,b⟩ | ⟨d,a,b⟩
 ·exact .inl ⟨q,cp,o,d,⟨a.1,jq⟩,b⟩
 ·exact .inr ⟨d,⟨a.1,jq⟩,b⟩
theorem Pj {α:Type} {f:Fix} {s:St} {k:St->Option α} {z:α} (h:fixK f s k=some z):∃s',k s'=some z/\Weak s s':=by
 unfold fixK at h;split at h
 ·rename_i t g tr;split at h
  ·rename_i p;split at h
   case h_2=>cases h
   rename_i e;have e:=aE e;refine ⟨_,h,λn ι0 ι w0 a w d=>⟨upd ι g none,?_⟩⟩;refine (d.phantom e tr).setT (u:=.sn) p λx hx=>?_;simp only [VR] at hx ⊢;exact .inr ⟨dk _ _ _,none,hx⟩
  ·exact ⟨s,h,Weak.refl s⟩
  ·cases h
 ·rename_i b i g tr;split at h
  case h_2=>cases h
  rename_i l o;split at h
  ·rename_i hi;split at h
   case h_2=>cases h
   rename_i e;have e:=aE e;refine ⟨_,h,λn ι0 ι w0 a w d=>⟨upd ι g none,?_⟩⟩;have r:b≠g:=by
    rintro rfl;obtain ⟨q,_,_,_,v,_⟩:=qj d.mem o;have:=d.mem.low b _ v;omega
   refine (d.phantom e tr).setH (u:=.sn) (by simp only [aR];rw [ab (Ne.symm r)];exact o) hi λx hx=>?_;simp only [VR] at hx ⊢;exact .inr ⟨dk _ _ _,none,hx⟩
  ·exact ⟨s,h,Weak.refl s⟩
  ·cases h
 ·rename_i t;split at h
  ·rename_i c p;split at h
   case h_2=>cases h
   rename_i tr l o;exact ⟨_,h,λn ι0 ι w0 a w d=>⟨ι,d.setT p (UG d.mem o)⟩⟩
  ·rename_i z c j n m p;exact ⟨_,h,λn ι0 ι w0 a w d=>⟨ι,d.setT p Oz⟩⟩
  ·exact ⟨s,h,Weak.refl s⟩
  ·cases h
 ·rename_i b i;split at h
  case h_2=>cases h
  rename_i l o;split at h
  ·rename_i c hi;split at h
   case h_2=>cases h
   rename_i tr m hc;exact ⟨_,h,λn ι0 ι w0 a w d=>⟨ι,d.setH o hi (UG d.mem hc)⟩⟩
  ·rename_i z c j n m' hi;exact ⟨_,h,λn ι0 ι w0 a w d=>⟨ι,d.setH o hi Oz⟩⟩
  ·exact ⟨s,h,Weak.refl s⟩
  ·cases h
theorem BC {α:Type}:∀{l:List Fix} {s:St} {k:St->Option α} {z:α},EK l s k=some z->∃s',k s'=some z/\Weak s s'
 | [],s,k,z,h=>⟨s,h,Weak.refl s⟩
 | f::l,s,k,z,h=>by
  simp only [EK] at h;obtain ⟨g,a,d⟩:=Pj h;obtain ⟨e,c,b⟩:=BC a;exact ⟨e,c,d.trans b⟩
def aq {X Y:Type} (step:X->Option (X⊕Y)):Nat->X->Option Y
 | 0,_=>none
 | n+1,x=>match step x with
  | some (.inl a)=>aq step n a
  | some (.inr y)=>some y
  | none=>none
theorem Weak.post {s s':St} (h:Weak s s') {n:Nat} {ι0 ι:Inj} {w0:Base} {a:Act} {w:World} (G:Inv n ι0 w0 ι s a w) {ex:Ex} {e:Exit} (E:ExR ι ex e)
  (J:∀v,ex=.pan v->V.flat v=true):∃C,ExR C ex e/\Inv n ι0 w0 C s' a w:=by
 obtain ⟨C,F⟩:=h n ι0 ι w0 a w G;refine ⟨C,?_,F⟩;cases ex with
 | pan v=>
  obtain ⟨x,rfl,hx⟩:=E;exact ⟨x,rfl,VR.flat v x (J v rfl) hx⟩
 | _=>exact E
theorem QB {X Y:Type} {E:List Ent} (D:∀x∈E,fp P x) {L:List Sub} {n:Nat} {c:AC} (z:i6 P n L c) {emb:X->St} {out:Y->Ex×St} {step:X->Option (X⊕Y)} {rd:Ex->St->Option (X⊕Y)}
  (hx:∀ex s x,rd ex s=some (.inl x)->ex=.normal/\Weak s (emb x)) (hy:∀ex s y,rd ex s=some (.inr y)->ex≠.normal/\ex=(out y).1/\Weak s (out y).2/\∀v,ex=.pan v->V.flat v=true)
  (C:∀x,run P E L n c (emb x) rd=step x):∀(m:Nat) (x:X) (y:Y),aq step m x=some y->
   SemC P n (.loop c.code) (emb x) λex s=>ex=(out y).1/\s=(out y).2:=by
 intro m x y h ι0 w0 ι a w A;refine wp_loop_rounds m ?_
 induction m generalizing x ι a w with
 | zero=>cases h
 | succ m ih=>
  rw [rounds_succ];simp only [aq] at h;cases hs:step x with
  | none=>rw [hs] at h;cases h
  | some r=>
   rw [hs] at h;refine sI ?_ (nW D c _ _ r z (by rw [C x];exact hs) ι0 w0 ι a w A);rintro e k w' ⟨ex,s,f,b,p,q⟩;cases r with
   | inl t=>
    obtain ⟨rfl,o⟩:=hx ex s t q;simp only [ExR] at b;subst b;obtain ⟨d,l⟩:=o n ι0 f w0 k w' p;exact ih t h d k w' l
   | inr j=>
    obtain ⟨g,u,o,B⟩:=hy ex s j q;simp only [ak] at h;subst h;obtain ⟨d,l,F⟩:=o.post p b B;refine (?_:Post n ι0 w0 (λex s=>ex=(out j).1/\s=(out j).2) e k w'->_) ⟨ex,_,d,l,F,u,rfl⟩;cases ex with
    | normal=>exact absurd rfl g
    | exit i=>simp only [ExR] at b;subst b;exact λh=>h
    | ret=>simp only [ExR] at b;subst b;exact λh=>h
    | pan v=>obtain ⟨_,rfl,_⟩:=b;exact λh=>h
theorem SemC.weak {n:Nat} {c:Code} {s s':St} {E:Ex->St->Prop} (h:Weak s s') (J:SemC P n c s' E):SemC P n c s E:=by
 intro ι0 w0 ι a w G;obtain ⟨C,F⟩:=h n ι0 ι w0 a w G;exact J ι0 w0 C a w F
theorem SemC.mono {n:Nat} {c:Code} {s:St} {E C:Ex->St->Prop} (h:SemC P n c s E) (hi:∀ex s,E ex s->C ex s):SemC P n c s C:=
 λι0 w0 ι a w G=>sI (λ_ _ _ ⟨ex,s,ι,F,J,O⟩=>⟨ex,s,ι,F,J,hi ex s O⟩) (h ι0 w0 ι a w G)
def subE {X Y:Type} (m:Nat) (rd:St->Option X) (f:X->Option Y) (a:(α:Type)->Y->(Ex->St->Option α)->Option α):Sub:=
 ⟨m,λα s k=>ob (rd s) λx=>ob (f x) λy=>a α y k⟩
theorem IM {α X Y:Type} {n m:Nat} {c:Code} {rd:St->Option X} {f:X->Option Y} {a:(α:Type)->Y->(Ex->St->Option α)->Option α} {out:Y->Ex×St} (g:∀α y k,a α y k=k (out y).1 (out y).2) {emb:X->St} (b:∀s x,rd s=some x->Weak s (emb x))
  (j:∀x y,f x=some y->SemC P n c (emb x) λex s=>ex=(out y).1/\s=(out y).2) {s:St} {k:Ex->St->Option α} {z:α} (h:(subE m rd f a).e α s k=some z):
  SemC P n c s λex s'=>k ex s'=some z:=by
 simp only [subE] at h;obtain ⟨x,l,h⟩:=ar h;obtain ⟨y,o,h⟩:=ar h;rw [g] at h;exact SemC.weak (b s x l) ((j x y o).mono λex s ⟨d,i⟩=>by rw [d,i];exact h)
def retX {R:Type} (a:V->Option R):Bool->V->St->Option R
 | false,v,_=>cond (V.flat v) (a v) none
 | true,_,_=>none
theorem N3 {R:Type} {k:V->Option R} {enc:R->V} (g:∀v r,k v=some r->v=enc r) {E:List Ent} (A:∀x∈E,fp P x) {L:List Sub} {f:Nat} {fn:Func} {c:Code} {ac:AC}
  (l:P.funcs[f]?=some fn) (z:fn.body=some c) (hc:ac.code=c) (n:i6 P fn.ntmps L ac) {args:List V} {r:R} (p:Nat.ble args.length fn.ntmps=true)
  (h:run P E L fn.ntmps ac ⟨rU args 0,[],0,0,0,0⟩ (finK P fn.results.toList (retX k))=some r):jN P f args (enc r):=by
 intro w t y hx;refine (JU A l z hc n p h gf w t (WR.nothing w) (λ_ _ h=>by cases h) (y.mono λb q h=>by have:=oO h;cases this) hx).mono λe w' ⟨pan,u,s,ι,a,_,_,_,_,m,i⟩=>?_;cases pan with
 | true=>cases a
 | false=>
  simp only [retX] at a;obtain ⟨d,a⟩:=dG a;have o:=g u r a;subst o;cases e with
  | returned x=>exact ⟨x,rfl,VR.flat _ _ d i.2,Ik m⟩
  | panicked j=>exact absurd i.1 (by simp)
  | outgrown=>exact i.elim
def Bz {A R:Type} (f:Nat) (b:List V->Option A) (sh:A->Option R) (enc:R->V):Ent:=
 ⟨f,λ_ args _ _ k=>ob (b args) λa=>ob (sh a) λr=>k { val:=enc r }⟩
theorem tL {A R:Type} {f:Nat} {j:List V->Option A} {sh:A->Option R} {enc:R->V} {arg:A->List V} (c:jE P f) (g:∀l a,j l=some a->l=arg a)
  (e:∀a,V.flats (arg a)=true) (h:∀a r,sh a=some r->jN P f (arg a) (enc r)):fp P (Bz f j sh enc):=by
 intro α args H fr k z i;simp only [Bz] at i;obtain ⟨a,m,b⟩:=ar i;obtain ⟨r,o,d⟩:=ar b;clear i b;have:=g args a m;subst this;exact ⟨_,d,λn _=>.inl ⟨c,(h a r o).call (e a) n fr⟩⟩
def subs:AC->List (Nat×AC)
 | .seq a b | .cond _ a b=>subs a++subs b
 | .block _ a | .loop a | .scope a=>subs a
 | .sub m c=>[(m,c)]
 | _=>[]
def getS:List (Nat×AC)->Nat->AC
 | [],_=>.skip
 | (k,c)::l,m=>cond (Nat.beq k m) c (getS l m)
def AC.body:AC->AC
 | .loop c=>c
 | c=>c
def Vo (P:Program) (n:Nat) (L:List Sub) (m:Nat) (c:AC):Prop:=
 ∀(α:Type) (s:St) (k:Ex->St->Option α) (z:α),Ht α m s k L=some z->SemC P n c.code s λex s'=>k ex s'=some z
theorem lS {n:Nat} {L:List Sub}:∀(c:AC),(∀p∈subs c,Vo P n L p.1 p.2)->i6 P n L c
 | .seq a b,h=>⟨lS a λp hp=>h p (by simp [subs,hp]),lS b λp hp=>h p (by simp [subs,hp])⟩
 | .cond c a b,h=>⟨lS a λp hp=>h p (by simp [subs,hp]),lS b λp hp=>h p (by simp [subs,hp])⟩
 | .block _ a,h=>by simp only [i6];exact lS a λp hp=>h p (by simp [subs,hp])
 | .loop a,h=>by simp only [i6];exact lS a λp hp=>h p (by simp [subs,hp])
 | .scope a,h=>by simp only [i6];exact lS a λp hp=>h p (by simp [subs,hp])
 | .sub m c,h=>h (m,c) (by simp [subs])
 | .skip,_ | .ret,_ | .exit _,_ | .reg _ _,_ | .draw _ _,_ | .bad _,_ | .label _,_=>by simp [i6]
def ux (f:Func):Code:=match f.body with | some c=>c | none=>.skip
def acOf (f:Func):AC:=(sa (ux f) 0).1
def lg (l:List Nat):AC->AC
 | .seq a b=>.seq (lg l a) (lg l b)
 | .cond c a b=>.cond c (lg l a) (lg l b)
 | .block id a=>.block id (lg l a)
 | .loop a=>.loop (lg l a)
 | .scope a=>.scope (lg l a)
 | .sub m c=>cond (l.any (Nat.beq m)) (lg l c) (.sub m (lg l c))
 | c=>c
theorem gG (l:List Nat):∀c:AC,(lg l c).code=c.code
 | .seq a b=>by simp [lg,AC.code,gG l a,gG l b]
 | .cond c a b=>by simp [lg,AC.code,gG l a,gG l b]
 | .block id a=>by simp [lg,AC.code,gG l a]
 | .loop a=>by simp [lg,AC.code,gG l a]
 | .scope a=>by simp [lg,AC.code,gG l a]
 | .sub m c=>by
  simp only [lg];cases l.any (Nat.beq m)<;>simp [AC.code,gG l c]
 | .skip | .ret | .exit _ | .reg _ _ | .draw _ _ | .bad _ | .label _=>rfl
def acU (l:List Nat) (f:Func):AC:=lg l (acOf f)
theorem BE (f:Func):(acOf f).code=ux f:=jp _ _
theorem Gh (l:List Nat) (f:Func):(acU l f).code=ux f:=(gG l _).trans (BE f)
end Go.Abs
