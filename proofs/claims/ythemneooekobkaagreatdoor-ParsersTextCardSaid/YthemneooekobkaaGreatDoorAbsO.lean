
/- Loops by their rounds; functions by what their results read as.
   Conditions: none; generic over the program. -/
import Derived.Test.YthemneooekobkaaGreatDoorAbsK
set_option linter.unusedSimpArgs false
set_option linter.unusedVariables false
namespace Go.Abs
variable {P:Program}
mutual
def V.lt (nb:Nat):V->Bool
 | .p c _ | .sl c _ _ _ | .pr _ c _ _ | .ws c | .rs _ c _ _ _ | .mp c=>Nat.blt c nb
 | .fn _ l | .ag l | .tp l=>V.lts nb l
 | .it _ v=>V.lt nb v
 | .b _ | .i _ _ | .s _ | .pn | .sn | .nf | .ni | .ai _ _ _ | .unk=>true
def V.lts (nb:Nat):List V->Bool
 | []=>true
 | v::l=>V.lt nb v&&V.lts nb l
end
def Blk.lt (nb:Nat):Blk->Bool
 | .cells l=>V.lts nb l
 | _=>true
def Pl {α:Type} (nb:Nat) (H:List (Nat×Blk)):List Nat->(List (Nat×Blk)->Option α)->Option α
 | [],k=>k []
 | b::l,k=>match look H b with
  | some blk=>match Blk.lt nb blk&&Nat.blt b nb with
   | true=>Pl nb H l λm=>k ((b,blk)::m)
   | false=>none
  | none=>none
inductive Fix where
 | nilT (t g:Nat) (tr:List Lf)
 | nilH (b i g:Nat) (tr:List Lf)
 | rsT (t:Nat)
 | rsH (b i:Nat)
def fixK {α:Type} (f:Fix) (s:St) (k:St->Option α):Option α:=
 match f with
 | .nilT t g tr=>match look s.T t with
  | some (some .sn)=>match Nat.ble s.nb g with
   | true=>k { T:=(t,some (.ws g))::s.T,H:=(g,.rows tr [])::s.H,nb:=g+1,lo:=s.lo,ro:=s.ro,rb:=s.rb }
   | false=>none
  | some (some (.ws _))=>k s
  | _=>none
 | .nilH b i g tr=>match look s.H b with
  | some (.cells l)=>match l[i]? with
   | some .sn=>match Nat.ble s.nb g with
    | true=>k { T:=s.T,H:=(b,.cells (l.set i (.ws g)))::(g,.rows tr [])::s.H,nb:=g+1,lo:=s.lo,ro:=s.ro,rb:=s.rb }
    | false=>none
   | some (.ws _)=>k s
   | _=>none
  | _=>none
 | .rsT t=>match look s.T t with
  | some (some (.ws c))=>match look s.H c with
   | some (.rows tr l)=>k { T:=(t,some (.rs tr.length c 0 l.length none))::s.T,H:=s.H,nb:=s.nb,lo:=s.lo,ro:=s.ro,rb:=s.rb }
   | _=>none
  | some (some (.rs z c j n (some _)))=>k { T:=(t,some (.rs z c j n none))::s.T,H:=s.H,nb:=s.nb,lo:=s.lo,ro:=s.ro,rb:=s.rb }
  | some (some (.rs _ _ _ _ none))=>k s
  | _=>none
 | .rsH b i=>match look s.H b with
  | some (.cells l)=>match l[i]? with
   | some (.ws c)=>match look s.H c with
    | some (.rows tr m)=>k { T:=s.T,H:=(b,.cells (l.set i (.rs tr.length c 0 m.length none)))::s.H,nb:=s.nb,lo:=s.lo,ro:=s.ro,rb:=s.rb }
    | _=>none
   | some (.rs z c j n (some _))=>k { T:=s.T,H:=(b,.cells (l.set i (.rs z c j n none)))::s.H,nb:=s.nb,lo:=s.lo,ro:=s.ro,rb:=s.rb }
   | some (.rs _ _ _ _ none)=>k s
   | _=>none
  | _=>none
def Hw {α:Type}:List Fix->St->(St->Option α)->Option α
 | [],s,k=>k s
 | f::l,s,k=>fixK f s λs=>Hw l s k
theorem Hu {α:Type} {nb:Nat} {H:List (Nat×Blk)}:∀{l:List Nat} {k:List (Nat×Blk)->Option α} {z:α},Pl nb H l k=some z->
  ∃d,k d=some z/\∀b blk,look d b=some blk->look H b=some blk/\Blk.lt nb blk=true/\b<nb
 | [],k,z,h=>⟨[],h,λt v h=>by cases h⟩
 | b::l,k,z,h=>by
  simp only [Pl] at h;split at h
  ·rename_i blk i;split at h
   ·rename_i a;simp only [aD] at a;obtain ⟨d,g,f⟩:=Hu h;refine ⟨_,g,λc x hc=>?_⟩;rw [aX] at hc;split at hc
    ·rename_i e;subst e;simp only [aw] at hc;subst hc;exact ⟨i,a.1,aN a.2⟩
    ·exact f c x hc
   ·cases h
  ·cases h
def Weak (s s':St):Prop:=∀(n:Nat) (ι0 ι:Inj) (w0:Base) (a:Act) (w:World),Inv n ι0 w0 ι s a w->∃b,Inv n ι0 w0 b s' a w
theorem Weak.refl (s:St):Weak s s:=λ_ _ ι _ _ _ h=>⟨ι,h⟩
theorem Weak.trans {a b c:St} (h:Weak a b) (C:Weak b c):Weak a c:=λn ι0 ι w0 ac w E=>
 let ⟨ι1,h1⟩:=h n ι0 ι w0 ac w E
 C n ι0 ι1 w0 ac w h1
theorem Inv.phantom {n:Nat} {ι0 ι:Inj} {w0:Base} {s:St} {a:Act} {w:World} (C:Inv n ι0 w0 ι s a w) {g:Nat} (E:s.nb<=g) (tr:List Lf):
  Inv n ι0 w0 (upd ι g none) { T:=s.T,H:=(g,.rows tr [])::s.H,nb:=g+1,lo:=s.lo,ro:=s.ro,rb:=s.rb } a w:=
 C.phantom' (C.fresh g E) (by omega) (Nat.lt_succ_self g) tr
theorem Inv.setT {n:Nat} {ι0 ι:Inj} {w0:Base} {s:St} {a:Act} {w:World} (C:Inv n ι0 w0 ι s a w) {t:Nat} {u v:V} (O:look s.T t=some (some u)) (F:∀x,VR ι u x->VR ι v x):
  Inv n ι0 w0 ι { T:=(t,some v)::s.T,H:=s.H,nb:=s.nb,lo:=s.lo,ro:=s.ro,rb:=s.rb } a w:=by
 refine ⟨C.size,C.defers,λE Q h=>?_,C.mem,C.ext,C.new,C.fr,C.low,C.fz,C.gl⟩;rw [aX] at h;split at h
 ·rename_i e;subst e;simp only [aw] at h;subst h;obtain ⟨x,J,G⟩:=C.tmps t u O;exact ⟨x,J,F x G⟩
 ·exact C.tmps E Q h
theorem Inv.setH {n:Nat} {ι0 ι:Inj} {w0:Base} {s:St} {a:Act} {w:World} (C:Inv n ι0 w0 ι s a w) {b i:Nat} {l:List V} {u v:V} (Y:look s.H b=some (.cells l)) (hi:l[i]?=some u) (O:∀x,VR ι u x->VR ι v x):
  Inv n ι0 w0 ι { T:=s.T,H:=(b,.cells (l.set i v))::s.H,nb:=s.nb,lo:=s.lo,ro:=s.ro,rb:=s.rb } a w:=by
 refine ⟨C.size,C.defers,C.tmps,⟨C.mem.inj,C.mem.low,C.mem.dom,λc y h W=>?_⟩,C.ext,C.new,C.fr,C.low,C.fz,C.gl⟩;rw [aX] at h;split at h
 ·rename_i e;subst e;simp only [aw] at h;subst h;obtain ⟨q,E,e,fr,U,Q,G,X⟩:=rr C.mem Y;refine .inl ⟨q,_,U,Q,E,e,fr,rfl,?_,X⟩;obtain ⟨x,hx,F⟩:=G.get hi;have:=G.set i (O x F);rwa [show E.toList.set i x=E.toList from by
   apply zZ;intro j;rw [List.getElem?_set];split
   ·rename_i e;subst e;split
    ·exact hx.symm
    ·rename_i J;rw [fV (by omega)] at hx;cases hx
   ·rfl] at this
 ·exact C.mem.blk c y h W
theorem Wp {ι:Inj} {H:List (Nat×Blk)} {nb c:Nat} {w:World} (e:WR ι H nb w) {t:List Lf} {l:List (den t)} (h:look H c=some (.rows t l)):∀x,VR ι (.ws c) x->VR ι (.rs t.length c 0 l.length none) x:=by
 intro x hx;simp only [VR] at hx ⊢;rcases jH e h with ⟨q,m,n,fr,b,i,g,j,_⟩ | ⟨b,rfl⟩
 ·rcases hx with ⟨f,a,rfl⟩ | ⟨a,_⟩
  ·rw [a] at b;cases b;exact .inl ⟨q,q.k,q.o,a,⟨by omega,kB⟩,λ_=>by omega,by rw [g]⟩
  ·rw [a] at b;cases b
 ·rcases hx with ⟨f,a,_⟩ | ⟨a,d,rfl⟩
  ·rw [a] at b;cases b
  ·exact .inr ⟨a,⟨rfl,kB⟩,d,rfl⟩
theorem RU {ι:Inj} {z c j n m:Nat}:∀x,VR ι (.rs z c j n (some m)) x->VR ι (.rs z c j n none) x:=by
 intro x hx;simp only [VR] at hx ⊢;rcases hx with ⟨q,cp,o,d,b,a⟩ | ⟨d,b,a⟩
 ·exact .inl ⟨q,cp,o,d,⟨b.1,kB⟩,a⟩
 ·exact .inr ⟨d,⟨b.1,kB⟩,a⟩
theorem Uh {α:Type} {f:Fix} {s:St} {k:St->Option α} {z:α} (h:fixK f s k=some z):∃s',k s'=some z/\Weak s s':=by
 unfold fixK at h;split at h
 ·rename_i t g tr;split at h
  ·rename_i p;split at h
   case h_2=>cases h
   rename_i e;have e:=aN e;refine ⟨_,h,λn ι0 ι w0 a w d=>⟨upd ι g none,?_⟩⟩;refine (d.phantom e tr).setT (u:=.sn) p λx hx=>?_;simp only [VR] at hx ⊢;exact .inr ⟨dJ _ _ _,none,hx⟩
  ·exact ⟨s,h,Weak.refl s⟩
  ·cases h
 ·rename_i b i g tr;split at h
  case h_2=>cases h
  rename_i l o;split at h
  ·rename_i hi;split at h
   case h_2=>cases h
   rename_i e;have e:=aN e;refine ⟨_,h,λn ι0 ι w0 a w d=>⟨upd ι g none,?_⟩⟩;have r:b≠g:=by
    rintro rfl;obtain ⟨q,_,_,_,v,_⟩:=rr d.mem o;have:=d.mem.low b _ v;omega
   refine (d.phantom e tr).setH (u:=.sn) (by simp only [aX];rw [ab (Ne.symm r)];exact o) hi λx hx=>?_;simp only [VR] at hx ⊢;exact .inr ⟨dJ _ _ _,none,hx⟩
  ·exact ⟨s,h,Weak.refl s⟩
  ·cases h
 ·rename_i t;split at h
  ·rename_i c p;split at h
   case h_2=>cases h
   rename_i tr l o;exact ⟨_,h,λn ι0 ι w0 a w d=>⟨ι,d.setT p (Wp d.mem o)⟩⟩
  ·rename_i z c j n m p;exact ⟨_,h,λn ι0 ι w0 a w d=>⟨ι,d.setT p RU⟩⟩
  ·exact ⟨s,h,Weak.refl s⟩
  ·cases h
 ·rename_i b i;split at h
  case h_2=>cases h
  rename_i l o;split at h
  ·rename_i c hi;split at h
   case h_2=>cases h
   rename_i tr m hc;exact ⟨_,h,λn ι0 ι w0 a w d=>⟨ι,d.setH o hi (Wp d.mem hc)⟩⟩
  ·rename_i z c j n m' hi;exact ⟨_,h,λn ι0 ι w0 a w d=>⟨ι,d.setH o hi RU⟩⟩
  ·exact ⟨s,h,Weak.refl s⟩
  ·cases h
theorem EZ {α:Type}:∀{l:List Fix} {s:St} {k:St->Option α} {z:α},Hw l s k=some z->∃s',k s'=some z/\Weak s s'
 | [],s,k,z,h=>⟨s,h,Weak.refl s⟩
 | f::l,s,k,z,h=>by
  simp only [Hw] at h;obtain ⟨g,c,b⟩:=Uh h;obtain ⟨a,e,d⟩:=EZ c;exact ⟨a,e,b.trans d⟩
def av {X Y:Type} (step:X->Option (X⊕Y)):Nat->X->Option Y
 | 0,_=>none
 | n+1,x=>match step x with
  | some (.inl a)=>av step n a
  | some (.inr y)=>some y
  | none=>none
theorem Weak.post {s s':St} (h:Weak s s') {n:Nat} {ι0 ι:Inj} {w0:Base} {a:Act} {w:World} (J:Inv n ι0 w0 ι s a w) {ex:Ex} {e:Exit} (E:ExR ι ex e)
  (F:∀v,ex=.pan v->V.flat v=true):∃C,ExR C ex e/\Inv n ι0 w0 C s' a w:=by
 obtain ⟨C,G⟩:=h n ι0 ι w0 a w J;refine ⟨C,?_,G⟩;cases ex with
 | pan v=>
  obtain ⟨x,rfl,hx⟩:=E;exact ⟨x,rfl,VR.flat v x (F v rfl) hx⟩
 | _=>exact E
theorem TO {X Y:Type} {E:List Ent} (z:∀x∈E,ge P x) {L:List Sub} {n:Nat} {c:AC} (A:jV P n L c) {emb:X->St} {out:Y->Ex×St} {step:X->Option (X⊕Y)} {rd:Ex->St->Option (X⊕Y)}
  (hx:∀ex s x,rd ex s=some (.inl x)->ex=.normal/\Weak s (emb x)) (hy:∀ex s y,rd ex s=some (.inr y)->ex≠.normal/\ex=(out y).1/\Weak s (out y).2/\∀v,ex=.pan v->V.flat v=true)
  (C:∀x,run P E L n c (emb x) rd=step x):∀(m:Nat) (x:X) (y:Y),av step m x=some y->
   SemC P n (.loop c.code) (emb x) λex s=>ex=(out y).1/\s=(out y).2:=by
 intro m x y h ι0 w0 ι a w F;refine wp_loop_rounds m ?_
 induction m generalizing x ι a w with
 | zero=>cases h
 | succ m ih=>
  rw [rounds_succ];simp only [av] at h;cases hs:step x with
  | none=>rw [hs] at h;cases h
  | some r=>
   rw [hs] at h;refine uu ?_ (pm z c _ _ r A (by rw [C x];exact hs) ι0 w0 ι a w F);rintro e j w' ⟨ex,s,g,b,p,t⟩;cases r with
   | inl q=>
    obtain ⟨rfl,o⟩:=hx ex s q t;simp only [ExR] at b;subst b;obtain ⟨d,l⟩:=o n ι0 g w0 j w' p;exact ih q h d j w' l
   | inr k=>
    obtain ⟨f,B,o,D⟩:=hy ex s k t;simp only [aw] at h;subst h;obtain ⟨d,l,u⟩:=o.post p b D;refine (?_:Post n ι0 w0 (λex s=>ex=(out k).1/\s=(out k).2) e j w'->_) ⟨ex,_,d,l,u,B,rfl⟩;cases ex with
    | normal=>exact absurd rfl f
    | exit i=>simp only [ExR] at b;subst b;exact λh=>h
    | ret=>simp only [ExR] at b;subst b;exact λh=>h
    | pan v=>obtain ⟨_,rfl,_⟩:=b;exact λh=>h
theorem SemC.weak {n:Nat} {c:Code} {s s':St} {E:Ex->St->Prop} (h:Weak s s') (G:SemC P n c s' E):SemC P n c s E:=by
 intro ι0 w0 ι a w J;obtain ⟨C,F⟩:=h n ι0 ι w0 a w J;exact G ι0 w0 C a w F
theorem SemC.mono {n:Nat} {c:Code} {s:St} {C E:Ex->St->Prop} (h:SemC P n c s C) (hi:∀ex s,C ex s->E ex s):SemC P n c s E:=
 λι0 w0 ι a w O=>uu (λ_ _ _ ⟨ex,s,ι,G,F,J⟩=>⟨ex,s,ι,G,F,hi ex s J⟩) (h ι0 w0 ι a w O)
def subE {X Y:Type} (m:Nat) (rd:St->Option X) (f:X->Option Y) (a:(α:Type)->Y->(Ex->St->Option α)->Option α):Sub:=
 ⟨m,λα s k=>ob (rd s) λx=>ob (f x) λy=>a α y k⟩
theorem NV {α X Y:Type} {n m:Nat} {c:Code} {rd:St->Option X} {f:X->Option Y} {a:(α:Type)->Y->(Ex->St->Option α)->Option α} {out:Y->Ex×St} (l:∀α y k,a α y k=k (out y).1 (out y).2) {emb:X->St} (b:∀s x,rd s=some x->Weak s (emb x))
  (d:∀x y,f x=some y->SemC P n c (emb x) λex s=>ex=(out y).1/\s=(out y).2) {s:St} {k:Ex->St->Option α} {z:α} (h:(subE m rd f a).e α s k=some z):
  SemC P n c s λex s'=>k ex s'=some z:=by
 simp only [subE] at h;obtain ⟨x,j,h⟩:=ay h;obtain ⟨y,g,h⟩:=ay h;rw [l] at h;exact SemC.weak (b s x j) ((d x y g).mono λex s ⟨o,i⟩=>by rw [o,i];exact h)
def retX {R:Type} (a:V->Option R):Bool->V->St->Option R
 | false,v,_=>cond (V.flat v) (a v) none
 | true,_,_=>none
theorem Qu {R:Type} {k:V->Option R} {enc:R->V} (d:∀v r,k v=some r->v=enc r) {E:List Ent} (m:∀x∈E,ge P x) {L:List Sub} {f:Nat} {fn:Func} {c:Code} {ac:AC}
  (o:P.funcs[f]?=some fn) (A:fn.body=some c) (hc:ac.code=c) (n:jV P fn.ntmps L ac) {args:List V} {r:R} (l:Nat.ble args.length fn.ntmps=true)
  (h:run P E L fn.ntmps ac ⟨tC args 0,[],0,0,0,0⟩ (finK P fn.results.toList (retX k))=some r):nZ P f args (enc r):=by
 intro w z t hx;refine (NT m o A hc n l h jI w z (WR.nothing w) (λ_ _ h=>by cases h) (t.mono λb q h=>by have:=ql h;cases this) hx).mono λe w' ⟨pan,u,s,ι,a,_,_,_,_,y,j⟩=>?_;cases pan with
 | true=>cases a
 | false=>
  simp only [retX] at a;obtain ⟨i,a⟩:=fb a;have p:=d u r a;subst p;cases e with
  | returned x=>exact ⟨x,rfl,VR.flat _ _ i j.2,Ov y⟩
  | panicked g=>exact absurd j.1 (by simp)
  | outgrown=>exact j.elim
def DY {A R:Type} (f:Nat) (b:List V->Option A) (sh:A->Option R) (enc:R->V):Ent:=
 ⟨f,λ_ args _ _ k=>ob (b args) λa=>ob (sh a) λr=>k { val:=enc r }⟩
theorem us {A R:Type} {f:Nat} {j:List V->Option A} {sh:A->Option R} {enc:R->V} {arg:A->List V} (b:me P f) (d:∀l a,j l=some a->l=arg a)
  (g:∀a,V.flats (arg a)=true) (h:∀a r,sh a=some r->nZ P f (arg a) (enc r)):ge P (DY f j sh enc):=by
 intro α args H fr k z i;simp only [DY] at i;obtain ⟨a,o,c⟩:=ay i;obtain ⟨r,n,e⟩:=ay c;clear i c;have:=d args a o;subst this;exact ⟨_,e,λm _=>.inl ⟨b,(h a r n).call (g a) m fr⟩⟩
def subs:AC->List (Nat×AC)
 | .seq a b | .cond _ a b=>subs a++subs b
 | .block _ a | .loop a | .scope a=>subs a
 | .sub m c=>[(m,c)]
 | _=>[]
def getS:List (Nat×AC)->Nat->AC
 | [],_=>.skip
 | (k,c)::l,m=>cond (Nat.beq k m) c (getS l m)
def AC.body:AC->AC
 | .loop c=>c
 | c=>c
def X8 (P:Program) (n:Nat) (L:List Sub) (m:Nat) (c:AC):Prop:=
 ∀(α:Type) (s:St) (k:Ex->St->Option α) (z:α),JD α m s k L=some z->SemC P n c.code s λex s'=>k ex s'=some z
theorem m7 {n:Nat} {L:List Sub}:∀(c:AC),(∀p∈subs c,X8 P n L p.1 p.2)->jV P n L c
 | .seq a b,h=>⟨m7 a λp hp=>h p (by simp [subs,hp]),m7 b λp hp=>h p (by simp [subs,hp])⟩
 | .cond c a b,h=>⟨m7 a λp hp=>h p (by simp [subs,hp]),m7 b λp hp=>h p (by simp [subs,hp])⟩
 | .block _ a,h=>by simp only [jV];exact m7 a λp hp=>h p (by simp [subs,hp])
 | .loop a,h=>by simp only [jV];exact m7 a λp hp=>h p (by simp [subs,hp])
 | .scope a,h=>by simp only [jV];exact m7 a λp hp=>h p (by simp [subs,hp])
 | .sub m c,h=>h (m,c) (by simp [subs])
 | .skip,_ | .ret,_ | .exit _,_ | .reg _ _,_ | .draw _ _,_ | .bad _,_ | .label _,_=>by simp [jV]
def vF (f:Func):Code:=match f.body with | some c=>c | none=>.skip
def acOf (f:Func):AC:=(tJ (vF f) 0).1
def mn (l:List Nat):AC->AC
 | .seq a b=>.seq (mn l a) (mn l b)
 | .cond c a b=>.cond c (mn l a) (mn l b)
 | .block id a=>.block id (mn l a)
 | .loop a=>.loop (mn l a)
 | .scope a=>.scope (mn l a)
 | .sub m c=>cond (l.any (Nat.beq m)) (mn l c) (.sub m (mn l c))
 | c=>c
theorem iG (l:List Nat):∀c:AC,(mn l c).code=c.code
 | .seq a b=>by simp [mn,AC.code,iG l a,iG l b]
 | .cond c a b=>by simp [mn,AC.code,iG l a,iG l b]
 | .block id a=>by simp [mn,AC.code,iG l a]
 | .loop a=>by simp [mn,AC.code,iG l a]
 | .scope a=>by simp [mn,AC.code,iG l a]
 | .sub m c=>by
  simp only [mn];cases l.any (Nat.beq m)<;>simp [AC.code,iG l c]
 | .skip | .ret | .exit _ | .reg _ _ | .draw _ _ | .bad _ | .label _=>rfl
def acU (l:List Nat) (f:Func):AC:=mn l (acOf f)
theorem EK (f:Func):(acOf f).code=vF f:=kA _ _
theorem GW (l:List Nat) (f:Func):(acU l f).code=vF f:=(iG l _).trans (EK f)
end Go.Abs
