
/- Loops by their rounds; functions by what their results read as.
   Conditions: none; generic over the program. -/
import Derived.Test.YtfiponokimbeeaaGreatDoorAbsK
set_option linter.unusedSimpArgs false
set_option linter.unusedVariables false
namespace Go.Abs
variable {P:Program}
mutual
def V.lt (nb:Nat):V->Bool
 | .p c _ | .sl c _ _ _ | .pr _ c _ _ | .ws c | .rs _ c _ _ _ | .mp c=>Nat.blt c nb
 | .fn _ l | .ag l | .tp l=>V.lts nb l
 | .it _ v=>V.lt nb v
 | .b _ | .i _ _ | .s _ | .pn | .sn | .nf | .ni | .ai _ _ _ | .unk=>true
def V.lts (nb:Nat):List V->Bool
 | []=>true
 | v::l=>V.lt nb v&&V.lts nb l
end
def Blk.lt (nb:Nat):Blk->Bool
 | .cells l=>V.lts nb l
 | _=>true
def Qi {α:Type} (nb:Nat) (H:List (Nat×Blk)):List Nat->(List (Nat×Blk)->Option α)->Option α
 | [],k=>k []
 | b::l,k=>match look H b with
  | some blk=>match Blk.lt nb blk&&Nat.blt b nb with
   | true=>Qi nb H l λm=>k ((b,blk)::m)
   | false=>none
  | none=>none
inductive Fix where
 | nilT (t g:Nat) (tr:List Lf)
 | nilH (b i g:Nat) (tr:List Lf)
 | rsT (t:Nat)
 | rsH (b i:Nat)
def fixK {α:Type} (f:Fix) (s:St) (k:St->Option α):Option α:=
 match f with
 | .nilT t g tr=>match look s.T t with
  | some (some .sn)=>match Nat.ble s.nb g with
   | true=>k { T:=(t,some (.ws g))::s.T,H:=(g,.rows tr [])::s.H,nb:=g+1,lo:=s.lo,ro:=s.ro,rb:=s.rb }
   | false=>none
  | some (some (.ws _))=>k s
  | _=>none
 | .nilH b i g tr=>match look s.H b with
  | some (.cells l)=>match l[i]? with
   | some .sn=>match Nat.ble s.nb g with
    | true=>k { T:=s.T,H:=(b,.cells (l.set i (.ws g)))::(g,.rows tr [])::s.H,nb:=g+1,lo:=s.lo,ro:=s.ro,rb:=s.rb }
    | false=>none
   | some (.ws _)=>k s
   | _=>none
  | _=>none
 | .rsT t=>match look s.T t with
  | some (some (.ws c))=>match look s.H c with
   | some (.rows tr l)=>k { T:=(t,some (.rs tr.length c 0 l.length none))::s.T,H:=s.H,nb:=s.nb,lo:=s.lo,ro:=s.ro,rb:=s.rb }
   | _=>none
  | some (some (.rs z c j n (some _)))=>k { T:=(t,some (.rs z c j n none))::s.T,H:=s.H,nb:=s.nb,lo:=s.lo,ro:=s.ro,rb:=s.rb }
  | some (some (.rs _ _ _ _ none))=>k s
  | _=>none
 | .rsH b i=>match look s.H b with
  | some (.cells l)=>match l[i]? with
   | some (.ws c)=>match look s.H c with
    | some (.rows tr m)=>k { T:=s.T,H:=(b,.cells (l.set i (.rs tr.length c 0 m.length none)))::s.H,nb:=s.nb,lo:=s.lo,ro:=s.ro,rb:=s.rb }
    | _=>none
   | some (.rs z c j n (some _))=>k { T:=s.T,H:=(b,.cells (l.set i (.rs z c j n none)))::s.H,nb:=s.nb,lo:=s.lo,ro:=s.ro,rb:=s.rb }
   | some (.rs _ _ _ _ none)=>k s
   | _=>none
  | _=>none
def Ge {α:Type}:List Fix->St->(St->Option α)->Option α
 | [],s,k=>k s
 | f::l,s,k=>fixK f s λs=>Ge l s k
theorem Ht {α:Type} {nb:Nat} {H:List (Nat×Blk)}:∀{l:List Nat} {k:List (Nat×Blk)->Option α} {z:α},Qi nb H l k=some z->
  ∃d,k d=some z/\∀b blk,look d b=some blk->look H b=some blk/\Blk.lt nb blk=true/\b<nb
 | [],k,z,h=>⟨[],h,λt v h=>by cases h⟩
 | b::l,k,z,h=>by
  simp only [Qi] at h;split at h
  ·rename_i blk g;split at h
   ·rename_i a;simp only [az] at a;obtain ⟨d,f,i⟩:=Ht h;refine ⟨_,f,λc x hc=>?_⟩;rw [aU] at hc;split at hc
    ·rename_i e;subst e;simp only [au] at hc;subst hc;exact ⟨g,a.1,aI a.2⟩
    ·exact i c x hc
   ·cases h
  ·cases h
def Weak (s s':St):Prop:=∀(n:Nat) (ι0 ι:Inj) (w0:Base) (a:Act) (w:World),Inv n ι0 w0 ι s a w->∃b,Inv n ι0 w0 b s' a w
theorem Weak.refl (s:St):Weak s s:=λ_ _ ι _ _ _ h=>⟨ι,h⟩
theorem Weak.trans {a b c:St} (h:Weak a b) (C:Weak b c):Weak a c:=λn ι0 ι w0 ac w E=>
 let ⟨ι1,h1⟩:=h n ι0 ι w0 ac w E
 C n ι0 ι1 w0 ac w h1
theorem Inv.phantom {n:Nat} {ι0 ι:Inj} {w0:Base} {s:St} {a:Act} {w:World} (C:Inv n ι0 w0 ι s a w) {g:Nat} (E:s.nb<=g) (tr:List Lf):
  Inv n ι0 w0 (upd ι g none) { T:=s.T,H:=(g,.rows tr [])::s.H,nb:=g+1,lo:=s.lo,ro:=s.ro,rb:=s.rb } a w:=
 C.phantom' (C.fresh g E) (by omega) (Nat.lt_succ_self g) tr
theorem Inv.setT {n:Nat} {ι0 ι:Inj} {w0:Base} {s:St} {a:Act} {w:World} (C:Inv n ι0 w0 ι s a w) {t:Nat} {u v:V} (G:look s.T t=some (some u)) (J:∀x,VR ι u x->VR ι v x):
  Inv n ι0 w0 ι { T:=(t,some v)::s.T,H:=s.H,nb:=s.nb,lo:=s.lo,ro:=s.ro,rb:=s.rb } a w:=by
 refine ⟨C.size,C.defers,λO E h=>?_,C.mem,C.ext,C.new,C.fr,C.low,C.fz,C.gl⟩;rw [aU] at h;split at h
 ·rename_i e;subst e;simp only [au] at h;subst h;obtain ⟨x,F,Q⟩:=C.tmps t u G;exact ⟨x,F,J x Q⟩
 ·exact C.tmps O E h
theorem Inv.setH {n:Nat} {ι0 ι:Inj} {w0:Base} {s:St} {a:Act} {w:World} (C:Inv n ι0 w0 ι s a w) {b i:Nat} {l:List V} {u v:V} (Q:look s.H b=some (.cells l)) (hi:l[i]?=some u) (W:∀x,VR ι u x->VR ι v x):
  Inv n ι0 w0 ι { T:=s.T,H:=(b,.cells (l.set i v))::s.H,nb:=s.nb,lo:=s.lo,ro:=s.ro,rb:=s.rb } a w:=by
 refine ⟨C.size,C.defers,C.tmps,⟨C.mem.inj,C.mem.low,C.mem.dom,λc y h U=>?_⟩,C.ext,C.new,C.fr,C.low,C.fz,C.gl⟩;rw [aU] at h;split at h
 ·rename_i e;subst e;simp only [au] at h;subst h;obtain ⟨q,F,e,fr,O,X,G,Y⟩:=qN C.mem Q;refine .inl ⟨q,_,O,X,F,e,fr,rfl,?_,Y⟩;obtain ⟨x,hx,E⟩:=G.get hi;have:=G.set i (W x E);rwa [show F.toList.set i x=F.toList from by
   apply D2;intro j;rw [List.getElem?_set];split
   ·rename_i e;subst e;split
    ·exact hx.symm
    ·rename_i J;rw [gW (by omega)] at hx;cases hx
   ·rfl] at this
 ·exact C.mem.blk c y h U
theorem U4 {ι:Inj} {H:List (Nat×Blk)} {nb c:Nat} {w:World} (g:WR ι H nb w) {t:List Lf} {l:List (den t)} (f:look H c=some (.rows t l)):∀x,VR ι (.ws c) x->VR ι (.rs t.length c 0 l.length none) x:=by
 intro x hx;simp only [VR] at hx ⊢;rcases jA g f with ⟨q,n,j,fr,b,i,h,m,_⟩ | ⟨b,rfl⟩
 ·rcases hx with ⟨d,a,rfl⟩ | ⟨a,_⟩
  ·rw [a] at b;cases b;exact .inl ⟨q,q.k,q.o,a,⟨by omega,kI⟩,λ_=>by omega,by rw [h]⟩
  ·rw [a] at b;cases b
 ·rcases hx with ⟨d,a,_⟩ | ⟨a,e,rfl⟩
  ·rw [a] at b;cases b
  ·exact .inr ⟨a,⟨rfl,kI⟩,e,rfl⟩
theorem QF {ι:Inj} {z c j n m:Nat}:∀x,VR ι (.rs z c j n (some m)) x->VR ι (.rs z c j n none) x:=by
 intro x hx;simp only [VR] at hx ⊢;rcases hx with ⟨q,cp,o,b,d,a⟩ | ⟨b,d,a⟩
 ·exact .inl ⟨q,cp,o,b,⟨d.1,kI⟩,a⟩
 ·exact .inr ⟨b,⟨d.1,kI⟩,a⟩
theorem Ss {α:Type} {f:Fix} {s:St} {k:St->Option α} {z:α} (h:fixK f s k=some z):∃s',k s'=some z/\Weak s s':=by
 unfold fixK at h;split at h
 ·rename_i t g tr;split at h
  ·rename_i p;split at h
   case h_2=>cases h
   rename_i o;have o:=aI o;refine ⟨_,h,λn ι0 ι w0 a w d=>⟨upd ι g none,?_⟩⟩;refine (d.phantom o tr).setT (u:=.sn) p λx hx=>?_;simp only [VR] at hx ⊢;exact .inr ⟨dF _ _ _,none,hx⟩
  ·exact ⟨s,h,Weak.refl s⟩
  ·cases h
 ·rename_i b i g tr;split at h
  case h_2=>cases h
  rename_i l e;split at h
  ·rename_i hi;split at h
   case h_2=>cases h
   rename_i o;have o:=aI o;refine ⟨_,h,λn ι0 ι w0 a w d=>⟨upd ι g none,?_⟩⟩;have r:b≠g:=by
    rintro rfl;obtain ⟨q,_,_,_,v,_⟩:=qN d.mem e;have:=d.mem.low b _ v;omega
   refine (d.phantom o tr).setH (u:=.sn) (by simp only [aU];rw [ab (Ne.symm r)];exact e) hi λx hx=>?_;simp only [VR] at hx ⊢;exact .inr ⟨dF _ _ _,none,hx⟩
  ·exact ⟨s,h,Weak.refl s⟩
  ·cases h
 ·rename_i t;split at h
  ·rename_i c p;split at h
   case h_2=>cases h
   rename_i tr l e;exact ⟨_,h,λn ι0 ι w0 a w d=>⟨ι,d.setT p (U4 d.mem e)⟩⟩
  ·rename_i z c j n m p;exact ⟨_,h,λn ι0 ι w0 a w d=>⟨ι,d.setT p QF⟩⟩
  ·exact ⟨s,h,Weak.refl s⟩
  ·cases h
 ·rename_i b i;split at h
  case h_2=>cases h
  rename_i l e;split at h
  ·rename_i c hi;split at h
   case h_2=>cases h
   rename_i tr m hc;exact ⟨_,h,λn ι0 ι w0 a w d=>⟨ι,d.setH e hi (U4 d.mem hc)⟩⟩
  ·rename_i z c j n m' hi;exact ⟨_,h,λn ι0 ι w0 a w d=>⟨ι,d.setH e hi QF⟩⟩
  ·exact ⟨s,h,Weak.refl s⟩
  ·cases h
theorem D1 {α:Type}:∀{l:List Fix} {s:St} {k:St->Option α} {z:α},Ge l s k=some z->∃s',k s'=some z/\Weak s s'
 | [],s,k,z,h=>⟨s,h,Weak.refl s⟩
 | f::l,s,k,z,h=>by
  simp only [Ge] at h;obtain ⟨g,b,d⟩:=Ss h;obtain ⟨a,e,c⟩:=D1 b;exact ⟨a,e,d.trans c⟩
def ar {X Y:Type} (step:X->Option (X⊕Y)):Nat->X->Option Y
 | 0,_=>none
 | n+1,x=>match step x with
  | some (.inl a)=>ar step n a
  | some (.inr y)=>some y
  | none=>none
theorem Weak.post {s s':St} (h:Weak s s') {n:Nat} {ι0 ι:Inj} {w0:Base} {a:Act} {w:World} (G:Inv n ι0 w0 ι s a w) {ex:Ex} {e:Exit} (E:ExR ι ex e)
  (J:∀v,ex=.pan v->V.flat v=true):∃C,ExR C ex e/\Inv n ι0 w0 C s' a w:=by
 obtain ⟨C,F⟩:=h n ι0 ι w0 a w G;refine ⟨C,?_,F⟩;cases ex with
 | pan v=>
  obtain ⟨x,rfl,hx⟩:=E;exact ⟨x,rfl,VR.flat v x (J v rfl) hx⟩
 | _=>exact E
theorem TC {X Y:Type} {E:List Ent} (B:∀x∈E,fF P x) {L:List Sub} {n:Nat} {c:AC} (z:jN P n L c) {emb:X->St} {out:Y->Ex×St} {step:X->Option (X⊕Y)} {rd:Ex->St->Option (X⊕Y)}
  (hx:∀ex s x,rd ex s=some (.inl x)->ex=.normal/\Weak s (emb x)) (hy:∀ex s y,rd ex s=some (.inr y)->ex≠.normal/\ex=(out y).1/\Weak s (out y).2/\∀v,ex=.pan v->V.flat v=true)
  (u:∀x,run P E L n c (emb x) rd=step x):∀(m:Nat) (x:X) (y:Y),ar step m x=some y->
   SemC P n (.loop c.code) (emb x) λex s=>ex=(out y).1/\s=(out y).2:=by
 intro m x y h ι0 w0 ι a w C;refine wp_loop_rounds m ?_
 induction m generalizing x ι a w with
 | zero=>cases h
 | succ m ih=>
  rw [rounds_succ];simp only [ar] at h;cases hs:step x with
  | none=>rw [hs] at h;cases h
  | some r=>
   rw [hs] at h;refine tC ?_ (oP B c _ _ r z (by rw [u x];exact hs) ι0 w0 ι a w C);rintro e f w' ⟨ex,s,l,b,t,p⟩;cases r with
   | inl q=>
    obtain ⟨rfl,g⟩:=hx ex s q p;simp only [ExR] at b;subst b;obtain ⟨d,j⟩:=g n ι0 l w0 f w' t;exact ih q h d f w' j
   | inr k=>
    obtain ⟨o,D,g,F⟩:=hy ex s k p;simp only [au] at h;subst h;obtain ⟨d,j,A⟩:=g.post t b F;refine (?_:Post n ι0 w0 (λex s=>ex=(out k).1/\s=(out k).2) e f w'->_) ⟨ex,_,d,j,A,D,rfl⟩;cases ex with
    | normal=>exact absurd rfl o
    | exit i=>simp only [ExR] at b;subst b;exact λh=>h
    | ret=>simp only [ExR] at b;subst b;exact λh=>h
    | pan v=>obtain ⟨_,rfl,_⟩:=b;exact λh=>h
theorem SemC.weak {n:Nat} {c:Code} {s s':St} {E:Ex->St->Prop} (h:Weak s s') (F:SemC P n c s' E):SemC P n c s E:=by
 intro ι0 w0 ι a w G;obtain ⟨C,J⟩:=h n ι0 ι w0 a w G;exact F ι0 w0 C a w J
theorem SemC.mono {n:Nat} {c:Code} {s:St} {C E:Ex->St->Prop} (h:SemC P n c s C) (hi:∀ex s,C ex s->E ex s):SemC P n c s E:=
 λι0 w0 ι a w J=>tC (λ_ _ _ ⟨ex,s,ι,G,O,F⟩=>⟨ex,s,ι,G,O,hi ex s F⟩) (h ι0 w0 ι a w J)
def subE {X Y:Type} (m:Nat) (rd:St->Option X) (f:X->Option Y) (a:(α:Type)->Y->(Ex->St->Option α)->Option α):Sub:=
 ⟨m,λα s k=>ob (rd s) λx=>ob (f x) λy=>a α y k⟩
theorem ML {α X Y:Type} {n m:Nat} {c:Code} {rd:St->Option X} {f:X->Option Y} {a:(α:Type)->Y->(Ex->St->Option α)->Option α} {out:Y->Ex×St} (g:∀α y k,a α y k=k (out y).1 (out y).2) {emb:X->St} (b:∀s x,rd s=some x->Weak s (emb x))
  (d:∀x y,f x=some y->SemC P n c (emb x) λex s=>ex=(out y).1/\s=(out y).2) {s:St} {k:Ex->St->Option α} {z:α} (h:(subE m rd f a).e α s k=some z):
  SemC P n c s λex s'=>k ex s'=some z:=by
 simp only [subE] at h;obtain ⟨x,i,h⟩:=av h;obtain ⟨y,o,h⟩:=av h;rw [g] at h;exact SemC.weak (b s x i) ((d x y o).mono λex s ⟨l,j⟩=>by rw [l,j];exact h)
def retX {R:Type} (a:V->Option R):Bool->V->St->Option R
 | false,v,_=>cond (V.flat v) (a v) none
 | true,_,_=>none
theorem Oe {R:Type} {k:V->Option R} {enc:R->V} (i:∀v r,k v=some r->v=enc r) {E:List Ent} (t:∀x∈E,fF P x) {L:List Sub} {f:Nat} {fn:Func} {c:Code} {ac:AC}
  (l:P.funcs[f]?=some fn) (m:fn.body=some c) (hc:ac.code=c) (n:jN P fn.ntmps L ac) {args:List V} {r:R} (z:Nat.ble args.length fn.ntmps=true)
  (h:run P E L fn.ntmps ac ⟨sD args 0,[],0,0,0,0⟩ (finK P fn.results.toList (retX k))=some r):lk P f args (enc r):=by
 intro w A o hx;refine (Ji t l m hc n z h ie w A (WR.nothing w) (λ_ _ h=>by cases h) (o.mono λb q h=>by have:=pK h;cases this) hx).mono λe w' ⟨pan,u,s,ι,a,_,_,_,_,p,d⟩=>?_;cases pan with
 | true=>cases a
 | false=>
  simp only [retX] at a;obtain ⟨j,a⟩:=dZ a;have y:=i u r a;subst y;cases e with
  | returned x=>exact ⟨x,rfl,VR.flat _ _ j d.2,Nz p⟩
  | panicked g=>exact absurd d.1 (by simp)
  | outgrown=>exact d.elim
def BU {A R:Type} (f:Nat) (b:List V->Option A) (sh:A->Option R) (enc:R->V):Ent:=
 ⟨f,λ_ args _ _ k=>ob (b args) λa=>ob (sh a) λr=>k { val:=enc r }⟩
theorem tn {A R:Type} {f:Nat} {j:List V->Option A} {sh:A->Option R} {enc:R->V} {arg:A->List V} (b:kT P f) (g:∀l a,j l=some a->l=arg a)
  (i:∀a,V.flats (arg a)=true) (h:∀a r,sh a=some r->lk P f (arg a) (enc r)):fF P (BU f j sh enc):=by
 intro α args H fr k z d;simp only [BU] at d;obtain ⟨a,m,c⟩:=av d;obtain ⟨r,o,e⟩:=av c;clear d c;have:=g args a m;subst this;exact ⟨_,e,λn _=>.inl ⟨b,(h a r o).call (i a) n fr⟩⟩
def subs:AC->List (Nat×AC)
 | .seq a b | .cond _ a b=>subs a++subs b
 | .block _ a | .loop a | .scope a=>subs a
 | .sub m c=>[(m,c)]
 | _=>[]
def getS:List (Nat×AC)->Nat->AC
 | [],_=>.skip
 | (k,c)::l,m=>cond (Nat.beq k m) c (getS l m)
def AC.body:AC->AC
 | .loop c=>c
 | c=>c
def X9 (P:Program) (n:Nat) (L:List Sub) (m:Nat) (c:AC):Prop:=
 ∀(α:Type) (s:St) (k:Ex->St->Option α) (z:α),Jb α m s k L=some z->SemC P n c.code s λex s'=>k ex s'=some z
theorem nh {n:Nat} {L:List Sub}:∀(c:AC),(∀p∈subs c,X9 P n L p.1 p.2)->jN P n L c
 | .seq a b,h=>⟨nh a λp hp=>h p (by simp [subs,hp]),nh b λp hp=>h p (by simp [subs,hp])⟩
 | .cond c a b,h=>⟨nh a λp hp=>h p (by simp [subs,hp]),nh b λp hp=>h p (by simp [subs,hp])⟩
 | .block _ a,h=>by simp only [jN];exact nh a λp hp=>h p (by simp [subs,hp])
 | .loop a,h=>by simp only [jN];exact nh a λp hp=>h p (by simp [subs,hp])
 | .scope a,h=>by simp only [jN];exact nh a λp hp=>h p (by simp [subs,hp])
 | .sub m c,h=>h (m,c) (by simp [subs])
 | .skip,_ | .ret,_ | .exit _,_ | .reg _ _,_ | .draw _ _,_ | .bad _,_ | .label _,_=>by simp [jN]
def vq (f:Func):Code:=match f.body with | some c=>c | none=>.skip
def acOf (f:Func):AC:=(sZ (vq f) 0).1
def mw (l:List Nat):AC->AC
 | .seq a b=>.seq (mw l a) (mw l b)
 | .cond c a b=>.cond c (mw l a) (mw l b)
 | .block id a=>.block id (mw l a)
 | .loop a=>.loop (mw l a)
 | .scope a=>.scope (mw l a)
 | .sub m c=>cond (l.any (Nat.beq m)) (mw l c) (.sub m (mw l c))
 | c=>c
theorem iq (l:List Nat):∀c:AC,(mw l c).code=c.code
 | .seq a b=>by simp [mw,AC.code,iq l a,iq l b]
 | .cond c a b=>by simp [mw,AC.code,iq l a,iq l b]
 | .block id a=>by simp [mw,AC.code,iq l a]
 | .loop a=>by simp [mw,AC.code,iq l a]
 | .scope a=>by simp [mw,AC.code,iq l a]
 | .sub m c=>by
  simp only [mw];cases l.any (Nat.beq m)<;>simp [AC.code,iq l c]
 | .skip | .ret | .exit _ | .reg _ _ | .draw _ _ | .bad _ | .label _=>rfl
def acU (l:List Nat) (f:Func):AC:=mw l (acOf f)
theorem CP (f:Func):(acOf f).code=vq f:=kB _ _
theorem Hh (l:List Nat) (f:Func):(acU l f).code=vq f:=(iq l _).trans (CP f)
end Go.Abs
