/- Loops by their rounds; functions by what their results read as.
   Conditions: none; generic over the program. -/
import Derived.Test.YtpkdacjndoiabaaGreatDoorAbsK
set_option linter.unusedSimpArgs false
namespace Go.Abs
variable {P:Program}
mutual
def V.lt (nb:Nat):V->Bool
 | .p c _ | .sl c _ _ _ | .pr _ c _ _ | .ws c | .rs _ c _ _ _ | .mp c=>Nat.blt c nb
 | .fn _ l | .ag l | .tp l=>V.lts nb l
 | .it _ v=>V.lt nb v
 | .b _ | .i _ _ | .s _ | .pn | .sn | .nf | .ni | .ai _ _ _ | .unk=>true
def V.lts (nb:Nat):List V->Bool
 | []=>true
 | v::l=>V.lt nb v&&V.lts nb l
end
def Blk.lt (nb:Nat):Blk->Bool
 | .cells l=>V.lts nb l
 | _=>true
def Mc {α:Type} (nb:Nat) (H:List (Nat×Blk)):List Nat->(List (Nat×Blk)->Option α)->Option α
 | [],k=>k []
 | b::l,k=>match look H b with
  | some blk=>match Blk.lt nb blk&&Nat.blt b nb with
   | true=>Mc nb H l λm=>k ((b,blk)::m)
   | false=>none
  | none=>none
inductive Fix where
 | nilT (t g:Nat) (tr:List Lf)
 | nilH (b i g:Nat) (tr:List Lf)
 | rsT (t:Nat)
 | rsH (b i:Nat)
def fixK {α:Type} (f:Fix) (s:St) (k:St->Option α):Option α:=
 match f with
 | .nilT t g tr=>match look s.T t with
  | some (some .sn)=>match Nat.ble s.nb g with
   | true=>k { T:=(t,some (.ws g))::s.T,H:=(g,.rows tr [])::s.H,nb:=g+1,lo:=s.lo,ro:=s.ro,rb:=s.rb }
   | false=>none
  | some (some (.ws _))=>k s
  | _=>none
 | .nilH b i g tr=>match look s.H b with
  | some (.cells l)=>match l[i]? with
   | some .sn=>match Nat.ble s.nb g with
    | true=>k { T:=s.T,H:=(b,.cells (l.set i (.ws g)))::(g,.rows tr [])::s.H,nb:=g+1,lo:=s.lo,ro:=s.ro,rb:=s.rb }
    | false=>none
   | some (.ws _)=>k s
   | _=>none
  | _=>none
 | .rsT t=>match look s.T t with
  | some (some (.ws c))=>match look s.H c with
   | some (.rows tr l)=>k { T:=(t,some (.rs tr.length c 0 l.length none))::s.T,H:=s.H,nb:=s.nb,lo:=s.lo,ro:=s.ro,rb:=s.rb }
   | _=>none
  | some (some (.rs z c j n (some _)))=>k { T:=(t,some (.rs z c j n none))::s.T,H:=s.H,nb:=s.nb,lo:=s.lo,ro:=s.ro,rb:=s.rb }
  | some (some (.rs _ _ _ _ none))=>k s
  | _=>none
 | .rsH b i=>match look s.H b with
  | some (.cells l)=>match l[i]? with
   | some (.ws c)=>match look s.H c with
    | some (.rows tr m)=>k { T:=s.T,H:=(b,.cells (l.set i (.rs tr.length c 0 m.length none)))::s.H,nb:=s.nb,lo:=s.lo,ro:=s.ro,rb:=s.rb }
    | _=>none
   | some (.rs z c j n (some _))=>k { T:=s.T,H:=(b,.cells (l.set i (.rs z c j n none)))::s.H,nb:=s.nb,lo:=s.lo,ro:=s.ro,rb:=s.rb }
   | some (.rs _ _ _ _ none)=>k s
   | _=>none
  | _=>none
def FZ {α:Type}:List Fix->St->(St->Option α)->Option α
 | [],s,k=>k s
 | f::l,s,k=>fixK f s λs=>FZ l s k
theorem Fe {α:Type} {nb:Nat} {H:List (Nat×Blk)}:∀{l:List Nat} {k:List (Nat×Blk)->Option α} {z:α},Mc nb H l k=some z->
  ∃H',k H'=some z/\∀b blk,look H' b=some blk->look H b=some blk/\Blk.lt nb blk=true/\b<nb
 | [],k,z,h=>⟨[],h,λt v h=>by cases h⟩
 | b::l,k,z,h=>by
  simp only [Mc] at h
  split at h
  ·rename_i blk hb
   split at h
   ·rename_i hlt
    simp only [az] at hlt
    obtain ⟨H',h1,h2⟩:=Fe h
    refine ⟨_,h1,λc x hc=>?_⟩
    rw [aU] at hc
    split at hc
    ·rename_i e;subst e
     simp only [aq] at hc;subst hc
     exact ⟨hb,hlt.1,aI hlt.2⟩
    ·exact h2 c x hc
   ·cases h
  ·cases h
def Weak (s s':St):Prop:=∀(n:Nat) (ι0 ι:Inj) (w0:Base) (a:Act) (w:World),Inv n ι0 w0 ι s a w->∃ι',Inv n ι0 w0 ι' s' a w
theorem Weak.refl (s:St):Weak s s:=λ_ _ ι _ _ _ h=>⟨ι,h⟩
theorem Weak.trans {a b c:St} (h:Weak a b) (h':Weak b c):Weak a c:=λn ι0 ι w0 ac w hI=>
 let ⟨ι1,h1⟩:=h n ι0 ι w0 ac w hI
 h' n ι0 ι1 w0 ac w h1
theorem Inv.phantom {n:Nat} {ι0 ι:Inj} {w0:Base} {s:St} {a:Act} {w:World} (hI:Inv n ι0 w0 ι s a w) {g:Nat} (hg:s.nb<=g) (tr:List Lf):
  Inv n ι0 w0 (upd ι g none) { T:=s.T,H:=(g,.rows tr [])::s.H,nb:=g+1,lo:=s.lo,ro:=s.ro,rb:=s.rb } a w:=
 hI.phantom' (hI.fresh g hg) (by omega) (Nat.lt_succ_self g) tr
theorem Inv.setT {n:Nat} {ι0 ι:Inj} {w0:Base} {s:St} {a:Act} {w:World} (hI:Inv n ι0 w0 ι s a w) {t:Nat} {u v:V} (hl:look s.T t=some (some u)) (hv:∀x,VR ι u x->VR ι v x):
  Inv n ι0 w0 ι { T:=(t,some v)::s.T,H:=s.H,nb:=s.nb,lo:=s.lo,ro:=s.ro,rb:=s.rb } a w:=by
 refine ⟨hI.size,hI.defers,λt' v' h=>?_,hI.mem,hI.ext,hI.new,hI.fr,hI.low,hI.fz,hI.gl⟩
 rw [aU] at h
 split at h
 ·rename_i e;subst e
  simp only [aq] at h;subst h
  obtain ⟨x,h1,h2⟩:=hI.tmps t u hl
  exact ⟨x,h1,hv x h2⟩
 ·exact hI.tmps t' v' h
theorem Inv.setH {n:Nat} {ι0 ι:Inj} {w0:Base} {s:St} {a:Act} {w:World} (hI:Inv n ι0 w0 ι s a w) {b i:Nat} {l:List V} {u v:V} (hl:look s.H b=some (.cells l)) (hi:l[i]?=some u) (hv:∀x,VR ι u x->VR ι v x):
  Inv n ι0 w0 ι { T:=s.T,H:=(b,.cells (l.set i v))::s.H,nb:=s.nb,lo:=s.lo,ro:=s.ro,rb:=s.rb } a w:=by
 refine ⟨hI.size,hI.defers,hI.tmps,⟨hI.mem.inj,hI.mem.low,hI.mem.dom,λc y h hd=>?_⟩,hI.ext,hI.new,hI.fr,hI.low,hI.fz,hI.gl⟩
 rw [aU] at h
 split at h
 ·rename_i e;subst e
  simp only [aq] at h;subst h
  obtain ⟨q,cs,e,fr,h1,h2,h3,h4⟩:=qH hI.mem hl
  refine .inl ⟨q,_,h1,h2,cs,e,fr,rfl,?_,h4⟩
  obtain ⟨x,hx,hux⟩:=h3.get hi
  have:=h3.set i (hv x hux)
  rwa [show cs.toList.set i x=cs.toList from by
   apply Cm
   intro j
   rw [List.getElem?_set]
   split
   ·rename_i e;subst e
    split
    ·exact hx.symm
    ·rename_i hlt;rw [gU (by omega)] at hx;cases hx
   ·rfl] at this
 ·exact hI.mem.blk c y h hd
theorem UG {ι:Inj} {H:List (Nat×Blk)} {nb c:Nat} {w:World} (hW:WR ι H nb w) {t:List Lf} {l:List (den t)} (hl:look H c=some (.rows t l)):∀x,VR ι (.ws c) x->VR ι (.rs t.length c 0 l.length none) x:=by
 intro x hx
 simp only [VR] at hx ⊢
 rcases jh hW hl with ⟨q,cs,e',fr,q1,q2,q4,q5,_⟩ | ⟨q1,rfl⟩
 ·rcases hx with ⟨q',h5,rfl⟩ | ⟨h5,_⟩
  ·rw [h5] at q1;cases q1
   exact .inl ⟨q,q.k,q.o,h5,⟨by omega,kb⟩,λ_=>by omega,by rw [q4]⟩
  ·rw [h5] at q1;cases q1
 ·rcases hx with ⟨q',h5,_⟩ | ⟨h5,ao,rfl⟩
  ·rw [h5] at q1;cases q1
  ·exact .inr ⟨h5,⟨rfl,kb⟩,ao,rfl⟩
theorem Oz {ι:Inj} {z c j n m:Nat}:∀x,VR ι (.rs z c j n (some m)) x->VR ι (.rs z c j n none) x:=by
 intro x hx
 simp only [VR] at hx ⊢
 rcases hx with ⟨q,cp,o,h1,h2,h3⟩ | ⟨h1,h2,h3⟩
 ·exact .inl ⟨q,cp,o,h1,⟨h2.1,kb⟩,h3⟩
 ·exact .inr ⟨h1,⟨h2.1,kb⟩,h3⟩
theorem Qx {α:Type} {f:Fix} {s:St} {k:St->Option α} {z:α} (h:fixK f s k=some z):∃s',k s'=some z/\Weak s s':=by
 unfold fixK at h
 split at h
 ·rename_i t g tr
  split at h
  ·rename_i hl
   split at h
   case h_2=>cases h
   rename_i hg
   have hg:=aI hg
   refine ⟨_,h,λn ι0 ι w0 a w hI=>⟨upd ι g none,?_⟩⟩
   refine (hI.phantom hg tr).setT (u:=.sn) hl λx hx=>?_
   simp only [VR] at hx ⊢
   exact .inr ⟨dk _ _ _,none,hx⟩
  ·exact ⟨s,h,Weak.refl s⟩
  ·cases h
 ·rename_i b i g tr
  split at h
  case h_2=>cases h
  rename_i l hb
  split at h
  ·rename_i hi
   split at h
   case h_2=>cases h
   rename_i hg
   have hg:=aI hg
   refine ⟨_,h,λn ι0 ι w0 a w hI=>⟨upd ι g none,?_⟩⟩
   have hbg:b≠g:=by
    rintro rfl
    obtain ⟨q,_,_,_,h1,_⟩:=qH hI.mem hb
    have:=hI.mem.low b _ h1
    omega
   refine (hI.phantom hg tr).setH (u:=.sn) (by simp only [aU];rw [ab (Ne.symm hbg)];exact hb) hi λx hx=>?_
   simp only [VR] at hx ⊢
   exact .inr ⟨dk _ _ _,none,hx⟩
  ·exact ⟨s,h,Weak.refl s⟩
  ·cases h
 ·rename_i t
  split at h
  ·rename_i c hl
   split at h
   case h_2=>cases h
   rename_i tr l hb
   exact ⟨_,h,λn ι0 ι w0 a w hI=>⟨ι,hI.setT hl (UG hI.mem hb)⟩⟩
  ·rename_i z c j n m hl
   exact ⟨_,h,λn ι0 ι w0 a w hI=>⟨ι,hI.setT hl Oz⟩⟩
  ·exact ⟨s,h,Weak.refl s⟩
  ·cases h
 ·rename_i b i
  split at h
  case h_2=>cases h
  rename_i l hb
  split at h
  ·rename_i c hi
   split at h
   case h_2=>cases h
   rename_i tr m hc
   exact ⟨_,h,λn ι0 ι w0 a w hI=>⟨ι,hI.setH hb hi (UG hI.mem hc)⟩⟩
  ·rename_i z c j n m' hi
   exact ⟨_,h,λn ι0 ι w0 a w hI=>⟨ι,hI.setH hb hi Oz⟩⟩
  ·exact ⟨s,h,Weak.refl s⟩
  ·cases h
theorem CU {α:Type}:∀{l:List Fix} {s:St} {k:St->Option α} {z:α},FZ l s k=some z->∃s',k s'=some z/\Weak s s'
 | [],s,k,z,h=>⟨s,h,Weak.refl s⟩
 | f::l,s,k,z,h=>by
  simp only [FZ] at h
  obtain ⟨s1,h1,h2⟩:=Qx h
  obtain ⟨s2,h4,h5⟩:=CU h1
  exact ⟨s2,h4,h2.trans h5⟩
def am {X Y:Type} (step:X->Option (X⊕Y)):Nat->X->Option Y
 | 0,_=>none
 | n+1,x=>match step x with
  | some (.inl x')=>am step n x'
  | some (.inr y)=>some y
  | none=>none
theorem Weak.post {s s':St} (h:Weak s s') {n:Nat} {ι0 ι:Inj} {w0:Base} {a:Act} {w:World} (hI:Inv n ι0 w0 ι s a w) {ex:Ex} {e:Exit} (he:ExR ι ex e)
  (hv:∀v,ex=.pan v->V.flat v=true):∃ι',ExR ι' ex e/\Inv n ι0 w0 ι' s' a w:=by
 obtain ⟨ι',h1⟩:=h n ι0 ι w0 a w hI
 refine ⟨ι',?_,h1⟩
 cases ex with
 | pan v=>
  obtain ⟨x,rfl,hx⟩:=he
  exact ⟨x,rfl,VR.flat v x (hv v rfl) hx⟩
 | _=>exact he
theorem Py {X Y:Type} {E:List Ent} (hE:∀x∈E,gN P x) {L:List Sub} {n:Nat} {c:AC} (hL:jC P n L c) {emb:X->St} {out:Y->Ex×St} {step:X->Option (X⊕Y)} {rd:Ex->St->Option (X⊕Y)}
  (hx:∀ex s x,rd ex s=some (.inl x)->ex=.normal/\Weak s (emb x)) (hy:∀ex s y,rd ex s=some (.inr y)->ex≠.normal/\ex=(out y).1/\Weak s (out y).2/\∀v,ex=.pan v->V.flat v=true)
  (hb:∀x,run P E L n c (emb x) rd=step x):∀(m:Nat) (x:X) (y:Y),am step m x=some y->
   SemC P n (.loop c.code) (emb x) λex s=>ex=(out y).1/\s=(out y).2:=by
 intro m x y h ι0 w0 ι a w hI
 refine wp_loop_rounds m ?_
 induction m generalizing x ι a w with
 | zero=>cases h
 | succ m ih=>
  rw [rounds_succ]
  simp only [am] at h
  cases hs:step x with
  | none=>rw [hs] at h;cases h
  | some r=>
   rw [hs] at h
   refine sX ?_ (om hE c _ _ r hL (by rw [hb x];exact hs) ι0 w0 ι a w hI)
   rintro e a' w' ⟨ex,s,ι',h1,h2,h3⟩
   cases r with
   | inl x'=>
    obtain ⟨rfl,g2⟩:=hx ex s x' h3
    simp only [ExR] at h1;subst h1
    obtain ⟨ι2,q1⟩:=g2 n ι0 ι' w0 a' w' h2
    exact ih x' h ι2 a' w' q1
   | inr y'=>
    obtain ⟨hne,g1,g2,g3⟩:=hy ex s y' h3
    simp only [aq] at h;subst h
    obtain ⟨ι2,q1,q2⟩:=g2.post h2 h1 g3
    refine (?_:Post n ι0 w0 (λex s=>ex=(out y').1/\s=(out y').2) e a' w'->_) ⟨ex,_,ι2,q1,q2,g1,rfl⟩
    cases ex with
    | normal=>exact absurd rfl hne
    | exit i=>simp only [ExR] at h1;subst h1;exact λh=>h
    | ret=>simp only [ExR] at h1;subst h1;exact λh=>h
    | pan v=>obtain ⟨_,rfl,_⟩:=h1;exact λh=>h
theorem SemC.weak {n:Nat} {c:Code} {s s':St} {Φ:Ex->St->Prop} (h:Weak s s') (hk:SemC P n c s' Φ):SemC P n c s Φ:=by
 intro ι0 w0 ι a w hI
 obtain ⟨ι',g1⟩:=h n ι0 ι w0 a w hI
 exact hk ι0 w0 ι' a w g1
theorem SemC.mono {n:Nat} {c:Code} {s:St} {Φ Ψ:Ex->St->Prop} (h:SemC P n c s Φ) (hi:∀ex s,Φ ex s->Ψ ex s):SemC P n c s Ψ:=
 λι0 w0 ι a w hI=>sX (λ_ _ _ ⟨ex,s,ι,h1,h2,h3⟩=>⟨ex,s,ι,h1,h2,hi ex s h3⟩) (h ι0 w0 ι a w hI)
def subE {X Y:Type} (m:Nat) (rd:St->Option X) (f:X->Option Y) (outK:(α:Type)->Y->(Ex->St->Option α)->Option α):Sub:=
 ⟨m,λα s k=>ob (rd s) λx=>ob (f x) λy=>outK α y k⟩
theorem K0 {α X Y:Type} {n m:Nat} {c:Code} {rd:St->Option X} {f:X->Option Y} {outK:(α:Type)->Y->(Ex->St->Option α)->Option α} {out:Y->Ex×St} (ho:∀α y k,outK α y k=k (out y).1 (out y).2) {emb:X->St} (hun:∀s x,rd s=some x->Weak s (emb x))
  (hf:∀x y,f x=some y->SemC P n c (emb x) λex s=>ex=(out y).1/\s=(out y).2) {s:St} {k:Ex->St->Option α} {z:α} (h:(subE m rd f outK).e α s k=some z):
  SemC P n c s λex s'=>k ex s'=some z:=by
 simp only [subE] at h
 obtain ⟨x,h1,h⟩:=av h
 obtain ⟨y,h2,h⟩:=av h
 rw [ho] at h
 exact SemC.weak (hun s x h1) ((hf x y h2).mono λex s ⟨e1,e2⟩=>by rw [e1,e2];exact h)
def retX {R:Type} (un:V->Option R):Bool->V->St->Option R
 | false,v,_=>cond (V.flat v) (un v) none
 | true,_,_=>none
theorem M8 {R:Type} {un:V->Option R} {enc:R->V} (hun:∀v r,un v=some r->v=enc r) {E:List Ent} (hE:∀x∈E,gN P x) {L:List Sub} {f:Nat} {fn:Func} {c:Code} {ac:AC}
  (hf:P.funcs[f]?=some fn) (hb:fn.body=some c) (hc:ac.code=c) (hL:jC P fn.ntmps L ac) {args:List V} {r:R} (hn:Nat.ble args.length fn.ntmps=true)
  (h:run P E L fn.ntmps ac ⟨sA args 0,[],0,0,0,0⟩ (finK P fn.results.toList (retX un))=some r):ks P f args (enc r):=by
 intro w xs hg hx
 refine (IZ hE hf hb hc hL hn h iH w xs (WR.nothing w) (λ_ _ h=>by cases h) (hg.mono λb q h=>by have:=pw h;cases this) hx).mono λe w' ⟨pan,u,s,ι,h1,_,_,_,_,h5,h6⟩=>?_
 cases pan with
 | true=>cases h1
 | false=>
  simp only [retX] at h1
  obtain ⟨hfl,h1⟩:=eO h1
  have hu:=hun u r h1
  subst hu
  cases e with
  | returned x=>exact ⟨x,rfl,VR.flat _ _ hfl h6.2,HZ h5⟩
  | panicked chain=>exact absurd h6.1 (by simp)
  | outgrown=>exact h6.elim
def Bt {A R:Type} (f:Nat) (un:List V->Option A) (sh:A->Option R) (enc:R->V):Ent:=
 ⟨f,λ_ args _ _ k=>ob (un args) λa=>ob (sh a) λr=>k { val:=enc r }⟩
theorem ta {A R:Type} {f:Nat} {un:List V->Option A} {sh:A->Option R} {enc:R->V} {arg:A->List V} (hent:m4 P f) (hun:∀l a,un l=some a->l=arg a)
  (hfl:∀a,V.flats (arg a)=true) (h:∀a r,sh a=some r->ks P f (arg a) (enc r)):gN P (Bt f un sh enc):=by
 intro α args H fr k z hk
 simp only [Bt] at hk
 obtain ⟨a,h1,hk1⟩:=av hk
 obtain ⟨r,h2,hk2⟩:=av hk1
 clear hk hk1
 have:=hun args a h1
 subst this
 exact ⟨_,hk2,λH' _=>.inl ⟨hent,(h a r h2).call (hfl a) H' fr⟩⟩
def subs:AC->List (Nat×AC)
 | .seq a b | .cond _ a b=>subs a++subs b
 | .block _ a | .loop a | .scope a=>subs a
 | .sub m c=>[(m,c)]
 | _=>[]
def getS:List (Nat×AC)->Nat->AC
 | [],_=>.skip
 | (k,c)::l,m=>cond (Nat.beq k m) c (getS l m)
def AC.body:AC->AC
 | .loop c=>c
 | c=>c
def VE (P:Program) (n:Nat) (L:List Sub) (m:Nat) (c:AC):Prop:=
 ∀(α:Type) (s:St) (k:Ex->St->Option α) (z:α),Hy α m s k L=some z->SemC P n c.code s λex s'=>k ex s'=some z
theorem mE {n:Nat} {L:List Sub}:∀(c:AC),(∀p∈subs c,VE P n L p.1 p.2)->jC P n L c
 | .seq a b,h=>⟨mE a λp hp=>h p (by simp [subs,hp]),mE b λp hp=>h p (by simp [subs,hp])⟩
 | .cond c a b,h=>⟨mE a λp hp=>h p (by simp [subs,hp]),mE b λp hp=>h p (by simp [subs,hp])⟩
 | .block _ a,h=>by simp only [jC];exact mE a λp hp=>h p (by simp [subs,hp])
 | .loop a,h=>by simp only [jC];exact mE a λp hp=>h p (by simp [subs,hp])
 | .scope a,h=>by simp only [jC];exact mE a λp hp=>h p (by simp [subs,hp])
 | .sub m c,h=>h (m,c) (by simp [subs])
 | .skip,_ | .ret,_ | .exit _,_ | .reg _ _,_ | .draw _ _,_ | .bad _,_ | .label _,_=>by simp [jC]
def uD (f:Func):Code:=match f.body with | some c=>c | none=>.skip
def acOf (f:Func):AC:=(sa (uD f) 0).1
def lJ (l:List Nat):AC->AC
 | .seq a b=>.seq (lJ l a) (lJ l b)
 | .cond c a b=>.cond c (lJ l a) (lJ l b)
 | .block id a=>.block id (lJ l a)
 | .loop a=>.loop (lJ l a)
 | .scope a=>.scope (lJ l a)
 | .sub m c=>cond (l.any (Nat.beq m)) (lJ l c) (.sub m (lJ l c))
 | c=>c
theorem ia (l:List Nat):∀c:AC,(lJ l c).code=c.code
 | .seq a b=>by simp [lJ,AC.code,ia l a,ia l b]
 | .cond c a b=>by simp [lJ,AC.code,ia l a,ia l b]
 | .block id a=>by simp [lJ,AC.code,ia l a]
 | .loop a=>by simp [lJ,AC.code,ia l a]
 | .scope a=>by simp [lJ,AC.code,ia l a]
 | .sub m c=>by
  simp only [lJ]
  cases l.any (Nat.beq m)<;>simp [AC.code,ia l c]
 | .skip | .ret | .exit _ | .reg _ _ | .draw _ _ | .bad _ | .label _=>rfl
def acU (l:List Nat) (f:Func):AC:=lJ l (acOf f)
theorem A8 (f:Func):(acOf f).code=uD f:=jV _ _
theorem Fv (l:List Nat) (f:Func):(acU l f).code=uD f:=(ia l _).trans (A8 f)
end Go.Abs
