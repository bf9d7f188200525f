
/- The interpreter is sound: what it comes to is what the model's code comes to.
   Conditions: none; generic over the program. -/
import Derived.Test.YtfiponokimbeeaaGreatDoorAbsI
set_option linter.unusedSimpArgs false
set_option linter.unusedVariables false
namespace Go.Abs
variable {P:Program}
def kT (P:Program) (f:Nat):Prop:=∀(args:Array Value) (w:World),(callFunc f args).run P w=.ok (.enter f args) w
def RetR (ι:Inj) (r:CR):Ending->Prop
 | .returned x=>r.pan=false/\VR ι r.val x
 | .panicked a=>r.pan=true/\∃x,a=[{ v:=x,recovered:=false }]/\VR ι r.val x
 | .outgrown=>False
def vr (wr:List (Nat×Blk)) (ι:Inj):Inj:=λb=>if wr.any (λx=>Nat.beq x.1 b) then ι b else none
def GW (P:Program) (f:Nat) (args:List V) (H:List (Nat×Blk)) (fr:Nat) (r:CR):Prop:=
 ∀(ι:Inj) (nb:Nat) (w:World) (c:Array Value),WR ι H nb w->GL (vr r.wr ι) w->(∀x∈r.wr,∀q,ι x.1=some (some q)->q.fz=false)->(∀b,fr<=b->b<fr+r.grow->ι b=none)->VRs ι args c.toList->
  Calls P f c w λe w'=>∃a:Inj,(∀b,isIn r.kill b=false->(b<fr\/fr+r.grow<=b)->a b=ι b)/\
   (∀b q,isIn r.kill b=true->a b=some (some q)->(∃d,ι b=some (some d)/\d.r=q.r)\/w.heap.size<=q.r)/\(∀b q,fr<=b->b<fr+r.grow->a b=some (some q)->w.heap.size<=q.r)/\(∀b q,a b=some (some q)->q.fz=true->ι b=some (some q))/\
   WR a (r.wr++Bq r.kill H) (max nb (fr+r.grow)) w'/\Fr (vr r.wr ι) w w'/\RetR a r e
mutual
theorem VR.kill {ι G:Inj} {K:List Nat} (h:∀b,isIn K b=false->∀q,ι b=some q->G b=some q):∀(v:V) (x:Value),VR ι v x->VR G (V.kill K v) x
 | .b _,_,hx | .i _ _,_,hx | .s _,_,hx | .pn,_,hx | .sn,_,hx | .nf,_,hx | .ni,_,hx | .ai _ _ _,_,hx | .unk,_,hx=>by simpa only [V.kill,VR] using hx
 | .p c o,x,hx=>by
  simp only [VR] at hx;obtain ⟨q,C,rfl⟩:=hx;simp only [V.kill];cases hc:isIn K c with
  | true=>simp [VR,Value.cells,Value.oneCell']
  | false=>simp only [af,VR];exact ⟨q,h c hc _ C,rfl⟩
 | .mp c,x,hx=>by
  simp only [VR] at hx;obtain ⟨q,C,rfl⟩:=hx;simp only [V.kill];cases hc:isIn K c with
  | true=>simp [VR,Value.cells,Value.oneCell']
  | false=>simp only [af,VR];exact ⟨q,h c hc _ C,rfl⟩
 | .pr z c j o,x,hx=>by
  simp only [VR] at hx;obtain ⟨q,C,rfl⟩:=hx;simp only [V.kill];cases hc:isIn K c with
  | true=>simp [VR,Value.cells,Value.oneCell']
  | false=>simp only [af,VR];exact ⟨q,h c hc _ C,rfl⟩
 | .sl c o n m,x,hx=>by
  simp only [VR] at hx;obtain ⟨q,cp,C,E,O,rfl⟩:=hx;simp only [V.kill];cases hc:isIn K c with
  | true=>simp [VR,Value.cells,Value.oneCell']
  | false=>simp only [af,VR];exact ⟨q,cp,h c hc _ C,E,O,rfl⟩
 | .ws c,x,hx=>by
  simp only [VR] at hx;simp only [V.kill];cases hc:isIn K c with
  | true=>rcases hx with ⟨q,C,rfl⟩ | ⟨C,F,rfl⟩<;>simp [VR,Value.cells,Value.oneCell']
  | false=>
   simp only [af,VR];rcases hx with ⟨q,C,rfl⟩ | ⟨C,F,rfl⟩
   ·exact .inl ⟨q,h c hc _ C,rfl⟩
   ·exact .inr ⟨h c hc _ C,F,rfl⟩
 | .rs z c j n _,x,hx=>by
  simp only [VR] at hx;simp only [V.kill];cases hc:isIn K c with
  | true=>rcases hx with ⟨q,cp,o,C,E,O,rfl⟩ | ⟨C,E,F,rfl⟩<;>simp [VR,Value.cells,Value.oneCell']
  | false=>
   simp only [af,VR];rcases hx with ⟨q,cp,o,C,E,O,rfl⟩ | ⟨C,E,F,rfl⟩
   ·exact .inl ⟨q,cp,o,h c hc _ C,E,O,rfl⟩
   ·exact .inr ⟨h c hc _ C,E,F,rfl⟩
 | .fn f cap,x,hx=>by
  simp only [V.kill,VR] at hx ⊢;obtain ⟨J,C,E⟩:=hx;exact ⟨J,C,VRs.kill h _ _ E⟩
 | .it t v,x,hx=>by
  simp only [V.kill,VR] at hx ⊢;obtain ⟨y,C,E⟩:=hx;exact ⟨y,C,VR.kill h _ _ E⟩
 | .ag l,x,hx=>by
  simp only [V.kill,VR] at hx ⊢;obtain ⟨J,C,E⟩:=hx;exact ⟨J,C,VRs.kill h _ _ E⟩
 | .tp l,x,hx=>by
  simp only [V.kill,VR] at hx ⊢;obtain ⟨J,C,E⟩:=hx;exact ⟨J,C,VRs.kill h _ _ E⟩
theorem VRs.kill {ι C:Inj} {K:List Nat} (h:∀b,isIn K b=false->∀q,ι b=some q->C b=some q):∀(l:List V) (E:List Value),VRs ι l E->VRs C (V.kills K l) E
 | [],_,hx=>by simpa [V.kills,VRs] using hx
 | v::l,E,hx=>by
  simp only [V.kills,VRs] at hx ⊢;obtain ⟨y,J,G,O,F⟩:=hx;exact ⟨y,J,G,VR.kill h _ _ O,VRs.kill h _ _ F⟩
end
theorem BR.kill {ι E:Inj} {K:List Nat} (h:∀b,isIn K b=false->∀q,ι b=some q->E b=some q) {q:Rf}:∀{blk:Blk} {o:Obj},BR ι q blk o->BR E q (blk.kill K) o
 | .dead,_,_=>trivial
 | .rows t l,o,C=>C
 | .cells l,o,C=>by
  obtain ⟨J,e,fr,G,O,F⟩:=C;exact ⟨J,e,fr,G,VRs.kill h _ _ O,F⟩
 | .ints k n l,o,C=>C
 | .iter s pos,o,C=>C
 | .mp k l,o,C=>C
theorem ut (K:List Nat):∀(T:List (Nat×Option V)) (t:Nat),look (vw K T) t=(look T t).map (Option.map (V.kill K))
 | [],t=>rfl
 | (u,none)::T,t=>by
  simp only [vw,aU,ut K T];split<;>rfl
 | (u,some v)::T,t=>by
  simp only [vw,aU,ut K T];split<;>rfl
theorem uQ (K:List Nat):∀(H:List (Nat×Blk)) (b:Nat),look (Bq K H) b=(look H b).map (Blk.kill K)
 | [],t=>rfl
 | (u,v)::T,t=>by
  simp only [Bq,aU,uQ K T];split<;>rfl
theorem TR.kill {ι C:Inj} {K:List Nat} (h:∀b,isIn K b=false->∀q,ι b=some q->C b=some q) {T:List (Nat×Option V)} {G:Array Value} (J:TR ι T G):TR C (vw K T) G:=by
 intro t v E;rw [ut] at E;cases F:look T t with
 | none=>simp [F] at E
 | some o=>
  cases o with
  | none=>simp [F] at E
  | some u=>
   simp only [F,eX,au] at E;subst E;obtain ⟨x,O,Q⟩:=J t u F;exact ⟨x,O,VR.kill h _ _ Q⟩
mutual
theorem V.kill_nil:∀v:V,V.kill [] v=v
 | .b _ | .i _ _ | .s _ | .pn | .sn | .nf | .ni | .ai _ _ _ | .unk | .p _ _ | .pr _ _ _ _ | .sl _ _ _ _ | .ws _ | .rs _ _ _ _ _ | .mp _=>rfl
 | .fn f l | .ag l | .tp l=>by simp only [V.kill,V.kills_nil l]
 | .it t v=>by simp only [V.kill,V.kill_nil v]
theorem V.kills_nil:∀l:List V,V.kills [] l=l
 | []=>rfl
 | v::l=>by simp only [V.kills,V.kill_nil v,V.kills_nil l]
end
theorem tJ:∀H:List (Nat×Blk),Bq [] H=H
 | []=>rfl
 | (b,x)::H=>by
  simp only [Bq,tJ H];cases x<;>simp only [Blk.kill,V.kills_nil]
theorem xJ:∀T:List (Nat×Option V),vw [] T=T
 | []=>rfl
 | (b,none)::T=>by simp only [vw,xJ T]
 | (b,some x)::T=>by simp only [vw,xJ T,V.kill_nil]
theorem St.kill_eq (K:List Nat) (s:St):s.kill K={ T:=vw K s.T,H:=Bq K s.H,nb:=s.nb,lo:=s.lo,ro:=s.ro,rb:=s.rb }:=by
 cases K with
 | nil=>simp only [St.kill,xJ,tJ]
 | cons b K=>rfl
def Ys (P:Program) (f:Nat) (args:List V) (r:CR):Prop:=
 r.pan=false/\r.wr=[]/\r.grow=0/\r.kill=[]/\∀(ι:Inj) (w:World) (a:Array Value),VRs ι args a.toList->∃x,(callFunc f a).run P w=.ok (.value x) w/\VR ι r.val x
def GoOK (P:Program) (f:Nat) (args:List V) (H:List (Nat×Blk)) (fr:Nat) (r:CR):Prop:=(kT P f/\GW P f args H fr r)\/Ys P f args r
def fF (P:Program) (x:Ent):Prop:=
 ∀(α:Type) (args:List V) (H:List (Nat×Blk)) (fr:Nat) (k:CR->Option α) (z:α),x.e α args H fr k=some z->
  ∃r,k r=some z/\∀a,(∀b∈r.rd,look a b=look H b)->GoOK P x.f args a fr r
theorem vU {α:Type} {f:Nat} {args:List V} {H:List (Nat×Blk)} {fr:Nat} {k:CR->Option α} {z:α}:∀{E:List Ent},(∀x∈E,fF P x)->IZ α f args H fr k E=some z->
  ∃r,k r=some z/\∀c,(∀b∈r.rd,look c b=look H b)->GoOK P f args c fr r
 | [],_,h=>by simp [IZ] at h
 | x::E,d,h=>by
  simp only [IZ] at h;cases a:Nat.beq x.f f with
  | true=>
   rw [a] at h;have e:=bK a;subst e;exact d x (by simp) α args H fr k z h
  | false=>
   rw [a] at h;exact vU (λy hy=>d y (gy _ hy)) h
def ExR (ι:Inj):Ex->Exit->Prop
 | .normal,e=>e=.normal
 | .exit id,e=>e=.exit id
 | .ret,e=>e=.ret
 | .pan v,e=>∃x,e=.panic [{ v:=x,recovered:=false }]/\VR ι v x
def Post (n:Nat) (ι0:Inj) (w0:Base) (b:Ex->St->Prop):Exit->Act->World->Prop:=
 λe a w=>∃ex s ι,ExR ι ex e/\Inv n ι0 w0 ι s a w/\b ex s
def SemC (P:Program) (n:Nat) (c:Code) (s:St) (b:Ex->St->Prop):Prop:=
 ∀(ι0:Inj) (w0:Base) (ι:Inj) (a:Act) (w:World),Inv n ι0 w0 ι s a w->c.wp P (Post n ι0 w0 b) a w
def jN (P:Program) (n:Nat) (L:List Sub):AC->Prop
 | .seq a b | .cond _ a b=>jN P n L a/\jN P n L b
 | .block _ a | .scope a | .loop a=>jN P n L a
 | .sub m c=>∀(α:Type) (s:St) (k:Ex->St->Option α) (z:α),Jb α m s k L=some z->SemC P n c.code s λex s'=>k ex s'=some z
 | _=>True
theorem Fr.trans {ι0 O:Inj} {w0 w w':World} (h:Fr ι0 w0 w) (U:∀b q,O b=some (some q)->(∃G,ι0 b=some (some G)/\G.r=q.r)\/w0.heap.size<=q.r) (F:Fr O w w'):Fr ι0 w0 w':=by
 refine ⟨F.os.trans h.os,F.tape.trans h.tape,F.output.trans h.output,ri h.size F.size,λk E C=>?_⟩;rw [F.blk k (rh E h.size) ?_,h.blk k E C];intro b q Q;rcases U b q Q with ⟨G,J,W⟩ | J
 ·rw [<-W];exact C b G J
 ·omega
theorem mX (a:Act) (d:Option Nat) (v:Value):(a.put d v).tmps.size=a.tmps.size:=by
 cases d<;>simp [Act.put]
theorem jE (a:Act) (d:Option Nat) (v:Value):(a.put d v).defers=a.defers:=by
 cases d<;>rfl
theorem TR.app {ι:Inj} {s:St} {a:Act} {n:Nat} {d:Option Nat} {v:Option V} {x:Value} {wr:List (Nat×Blk)} {nb:Nat} (C:TR ι s.T a.tmps) (hs:a.tmps.size=n) (E:uS n d=true)
  (F:∀u,v=some u->VR ι u x):TR ι (s.app d v wr nb).T (a.put d x).tmps:=by
 cases d with
 | none=>exact C
 | some d=>exact C.put (by rw [hs];exact aI E) F
theorem Inv.drawn {n:Nat} {ι0 ι:Inj} {w0:Base} {s:St} {a:Act} {w:World} (h:Inv n ι0 w0 ι s a w) (m:Nat):Inv n ι0 w0 ι s a { w with drawn:=m }:=
 ⟨h.size,h.defers,h.tmps,h.mem.draws m,h.ext,h.new,h.fr.draws m,h.low,h.fz,h.gl⟩
theorem GE {n fr:Nat} {ι0 ι:Inj} {w0:Base} {s:St} {o:Oper} {a:Act} {w:World} {e:Eff} (f:Inv n ι0 w0 ι s a w) (K:ι fr=none) (D:uS n o.dst=true)
  (h:gJ P ι fr o a w e) (t:e.new=false->∀L,e.wr=some L->s.ro<=L.1) {next:Act->World->Prop} {Q:Exit->Act->World->Prop}
  (G:∀g J w',(∀b,b≠fr->g b=ι b)->(e.new=false\/e.wr=none->g fr=ι fr)->
   Inv n ι0 w0 g (s.app o.dst e.val e.wr.toList (if e.new=true/\e.wr≠none then max s.nb (fr+1) else s.nb)) J w'->next J w'):
  o.wp P a w next Q:=by
 have k:∀{x:Next} {w':World} {g:Inj},(execOp a.eval o).run P w=.ok x w'->NextR g e.val x->(∀y,(∀u,e.val=some u->VR g u y)->next (a.put o.dst y) w')->o.wp P a w next Q:=by
  intro x w' g C hx hy;unfold Oper.wp;rw [C];cases hx with
  | skip F=>exact hy _ (λu I=>by rw [F] at I;cases I)
  | value x F=>exact hy _ F
 unfold gJ at h;split at h
 ·rename_i l;obtain ⟨x,m,z⟩:=h;refine k m z λy hy=>G ι _ _ (λ_ _=>rfl) (λ_=>rfl) ?_;rw [l];simp only [ne_eq,uX,and_false,aA];exact ⟨by rw [mX];exact f.size,by rw [jE];exact f.defers,f.tmps.app f.size D hy,f.mem,f.ext,f.new,f.fr,f.low,f.fz,f.gl⟩
 ·rename_i b blk l;split at h
  ·rename_i i;obtain ⟨r,m,N⟩:=h;have v:r.fz=false:=by
    cases hc:r.fz with
    | false=>rfl
    | true=>have:=f.fz b r m hc;have:=t i _ l;simp only at this;omega
   obtain ⟨ob,x,z,B,E⟩:=N v;refine k z E λy hy=>G ι _ _ (λ_ _=>rfl) (λ_=>rfl) ?_;rw [l,i];simp only [br,wQ,aA];refine ⟨by rw [mX];exact f.size,by rw [jE];exact f.defers,f.tmps.app f.size D hy,f.mem.write m v B,f.ext,f.new,?_,f.low,f.fz,f.gl⟩;exact f.fr.write ((f.new b r m).imp (λ⟨M,h,C⟩=>⟨b,M,DU h (t i _ l),C⟩) id) _
  ·rename_i i;obtain ⟨rfl,d,q,ob,x,z,H,A,B,E⟩:=h;have j:=pj (r:=some q) K;refine k z E λy hy=>G (upd ι b (some q)) _ _ (λc hc=>by simp [upd,hc]) (λhc=>by rw [i,l] at hc;simp at hc) ?_;rw [l,i];simp only [ne_eq,reduceCtorEq,FC,and_self,aJ]
   refine ⟨by rw [mX];exact f.size,by rw [jE];exact f.defers,(f.tmps.mono j).app f.size D hy,(f.mem.draws d).alloc K (by simp only [St.app];omega) (by simp only [St.app];omega) H B,λc q hc=>(f.ext c q hc).imp (j _ _) id,λc q hc=>?_,(f.fr.draws d).alloc ob,f.low,λc p hc hp=>by
    unfold upd at hc;split at hc
    ·simp only [au] at hc;subst hc;rw [A] at hp;cases hp
    ·exact f.fz c p hc hp,f.gl⟩
   unfold upd at hc;split at hc
   ·simp only [au] at hc;subst hc;exact .inr (by rw [H];exact f.fr.size)
   ·exact f.new c q hc
theorem Inv.phantom' {n:Nat} {ι0 ι:Inj} {w0:Base} {s:St} {a:Act} {w:World} (E:Inv n ι0 w0 ι s a w) {g:Nat} (W:ι g=none) {nb:Nat} (Q:s.nb<=nb) (X:g<nb) (tr:List Lf):
  Inv n ι0 w0 (upd ι g none) { T:=s.T,H:=(g,.rows tr [])::s.H,nb:=nb,lo:=s.lo,ro:=s.ro,rb:=s.rb } a w:=by
 have G:=pj (r:=none) W;have F:∀b,b≠g->upd ι g none b=ι b:=λb J=>by simp [upd,J]
 have C:∀b q,upd ι g none b=some (some q)->ι b=some (some q):=by
  intro b q h;by_cases J:b=g
  ·subst J;rw [dF] at h;cases h
  ·rwa [F b J] at h
 refine ⟨E.size,E.defers,E.tmps.mono G,⟨λb Z q q' e1 Y=>E.mem.inj b Z q q' (C _ _ e1) (C _ _ Y),λb q e=>?_,λb q e=>E.mem.dom b q (C _ _ e),λb y O hd=>?_⟩,
  λb q e=>(E.ext b q e).imp (G _ _) id,λb q e=>E.new b q (C _ _ e),E.fr,E.low,λb q e=>E.fz b q (C _ _ e),E.gl⟩
 ·by_cases J:b=g
  ·subst J;exact X
  ·rw [F b J] at e;exact rh (E.mem.low b q e) Q
 ·rw [aU] at O;split at O
  ·rename_i e;subst e;simp only [au] at O;subst O;exact .inr ⟨dF _ _ _,tr,rfl⟩
  ·rename_i U;exact (E.mem.blk b y O hd).map (F b (λe=>U e.symm)) (λ_ _=>rfl) (λ_ _ h=>BR.mono G h) (λ_ h=>h)
theorem Inv.setnb {n:Nat} {ι0 ι:Inj} {w0:Base} {s:St} {a:Act} {w:World} (C:Inv n ι0 w0 ι s a w) {nb:Nat} (h:s.nb<=nb):
  Inv n ι0 w0 ι { T:=s.T,H:=s.H,nb:=nb,lo:=s.lo,ro:=s.ro,rb:=s.rb } a w:=
 ⟨C.size,C.defers,C.tmps,⟨C.mem.inj,λb q e=>rh (C.mem.low b q e) h,C.mem.dom,C.mem.blk⟩,C.ext,C.new,C.fr,C.low,C.fz,C.gl⟩
theorem QA {ι:Inj} {g:Nat} (a:ι g=some none) {x:Value} (h:VR ι .sn x):VR ι (.ws g) x:=by
 simp only [VR] at h ⊢;exact .inr ⟨a,none,h⟩
theorem Bt:∀(ns:List (Nat×List Lf)) (g:Nat) (l:List V) (d:List (Nat×Blk)) (u:List V) (H:List (Nat×Blk)),nilL g ns l d=(u,H)->∃m,H=m++d/\
  ∀{n:Nat} {ι0 ι:Inj} {w0:Base} {s:St} {a:Act} {w:World},Inv n ι0 w0 ι s a w->(∀b,g<=b->b<g+m.length->ι b=none)->∀nb,s.nb<=nb->(m=[]\/g+m.length<=nb)->
   ∃c,(∀b,(b<g\/g+m.length<=b)->c b=ι b)/\(∀b q,ι b=some q->c b=some q)/\(∀o,VRs c l o->VRs c u o)/\
    Inv n ι0 w0 c { T:=s.T,H:=m++s.H,nb:=nb,lo:=s.lo,ro:=s.ro,rb:=s.rb } a w
 | [],g,l,d,u,H,h=>by
  simp only [nilL,bC] at h;obtain ⟨rfl,rfl⟩:=h;exact ⟨[],rfl,λ{n ι0 ι w0 s a w} A f nb z v=>⟨ι,λ_ _=>rfl,λ_ _ h=>h,λ_ h=>h,A.setnb z⟩⟩
 | (i,tr)::r,g,l,d,u,H,h=>by
  simp only [nilL] at h;split at h
  ·rename_i hi;obtain ⟨y,rfl,F⟩:=Bt r (g+1) _ _ _ _ h;refine ⟨y++[(g,.rows tr [])],by simp,λ{n ι0 ι w0 s a w} A f nb z v=>?_⟩;have t:(y++[((g,.rows tr []):Nat×Blk)]).length=y.length+1:=by simp
   rw [t] at f v ⊢;have v:g+(y.length+1)<=nb:=v.resolve_left (by simp);have D:=f g (aY _) (by omega);have p:=pj (r:=none) D
   obtain ⟨c,k1,k2,G,k4⟩:=F (A.phantom' D z (by omega) tr) (λb J I=>by
    have:upd ι g none b=ι b:=by simp [upd,show b≠g by omega]
    rw [this];exact f b (by omega) (by omega)) nb (aY _) (.inr (by omega))
   refine ⟨c,λb C=>?_,λb q C=>k2 b q (p b q C),λo hx=>G o ?_,by simpa using k4⟩
   ·rw [k1 b (by omega)];simp [upd,show b≠g by omega]
   ·obtain ⟨x,k,B⟩:=hx.get hi;have:=hx.set i (QA (g:=g) (k2 _ _ (dF _ _ _)) B);rwa [show o.set i x=o from by
     apply D2;intro j;rw [List.getElem?_set];split
     ·rename_i e;subst e;split
      ·exact k.symm
      ·rename_i E;rw [gW (by omega)] at k;cases k
     ·rfl] at this
  ·exact Bt r g l d u H h
theorem Rr {α:Type} (l m:List (Nat×α)) (n:Nat):look (l++m) n=(look l n).or (look m n):=by
 induction l with
 | nil=>rfl
 | cons x l ih=>
  obtain ⟨k,v⟩:=x;rw [eI,aU,aU,ih];split<;>rfl
theorem Inv.reH {n:Nat} {ι0 ι:Inj} {w0:Base} {T:List (Nat×Option V)} {A B:List (Nat×Blk)} {b nb lo ro rb:Nat} {l J:List V} {a:Act} {w:World}
  (E:Inv n ι0 w0 ι ⟨T,A++(b,.cells l)::B,nb,lo,ro,rb⟩ a w) (h:∀Q,VRs ι l Q->VRs ι J Q):Inv n ι0 w0 ι ⟨T,A++(b,.cells J)::B,nb,lo,ro,rb⟩ a w:=by
 refine ⟨E.size,E.defers,E.tmps,⟨E.mem.inj,E.mem.low,E.mem.dom,λc y hc O=>?_⟩,E.ext,E.new,E.fr,E.low,E.fz,E.gl⟩;have C:=E.mem.blk c;rw [Rr,aU] at hc C;cases G:look A c with
 | some z=>rw [G] at hc C;exact C y hc O
 | none=>
  rw [G] at hc C;simp only [E9] at hc C;split at hc
  ·rename_i e;rw [ae e] at C;simp only [au] at hc;subst hc;rcases C _ rfl (by simp) with ⟨q,o,W,F,U⟩ | ⟨_,t,F⟩
   ·obtain ⟨cs,Y,fr,Z,X,g3⟩:=U;exact .inl ⟨q,o,W,F,cs,Y,fr,Z,h _ X,g3⟩
   ·cases F
  ·rename_i e;rw [ab e] at C;exact C y hc O
theorem Inv.reT {n:Nat} {ι0 ι:Inj} {w0:Base} {s:St} {wr:List (Nat×Blk)} {d:Option Nat} {nb:Nat} {v G:V} {a:Act} {w:World}
  (E:Inv n ι0 w0 ι (s.app d (some v) wr nb) a w) (h:∀x,VR ι v x->VR ι G x):Inv n ι0 w0 ι (s.app d (some G) wr nb) a w:=by
 refine ⟨E.size,E.defers,?_,E.mem,E.ext,E.new,E.fr,E.low,E.fz,E.gl⟩;have J:=E.tmps;cases d with
 | none=>exact J
 | some d=>
  intro t u F;have C:=J t;simp only [St.app,aU] at F C;split at F
  ·rename_i e;rw [ae e] at C;simp only [au] at F;subst F;obtain ⟨x,O,Q⟩:=C v rfl;exact ⟨x,O,h x Q⟩
  ·rename_i e;rw [ab e] at C;exact C u F
theorem TA {P:Program} {t:TypeId} {g:Nat} {v m:V} {f:List (Nat×Blk)} (h:nilV P t g v=(m,f)) {n:Nat} {ι0 ι:Inj} {w0:Base} {s:St} {d:Option Nat} {nb0:Nat} {a:Act} {w:World}
  (q:Inv n ι0 w0 ι (s.app d (some v) [] nb0) a w) (k:∀b,g<=b->b<g+f.length->ι b=none) {nb:Nat} (p:nb0<=nb) (o:f=[]\/g+f.length<=nb):
  ∃c,(∀b,(b<g\/g+f.length<=b)->c b=ι b)/\Inv n ι0 w0 c (s.app d (some m) f nb) a w:=by
 have j:(v,([]:List (Nat×Blk)))=(m,f)->∃c,(∀b,(b<g\/g+f.length<=b)->c b=ι b)/\Inv n ι0 w0 c (s.app d (some m) f nb) a w:=by
  intro e;simp only [bC] at e;obtain ⟨rfl,rfl⟩:=e;exact ⟨ι,λ_ _=>rfl,q.setnb p⟩
 unfold nilV at h;split at h
 ·split at h
  ·rename_i i tr r I;simp only [bC] at h;obtain ⟨rfl,rfl⟩:=h;have F:=k g (aY _) (by simp);have o:g+1<=nb:=by simpa using o
   have:=q.phantom' F p o tr;exact ⟨upd ι g none,λb B=>by simp only [List.length_singleton] at B;simp [upd,show b≠g by omega],Inv.reT (s:=s) (wr:=[(g,.rows tr [])]) (v:=.sn) this λx hx=>QA (dF _ _ _) hx⟩
  ·exact j h
 ·rename_i l;split at h;rename_i G E C;simp only [bC] at h;obtain ⟨rfl,rfl⟩:=h;obtain ⟨H,e,u⟩:=Bt _ _ _ _ _ _ C;rw [nP] at e;subst e;obtain ⟨c,k1,k2,z,k4⟩:=u q k nb p o;refine ⟨c,k1,Inv.reT (s:=s) (wr:=E) (v:=.ag l) k4 λx hx=>?_⟩;simp only [VR] at hx ⊢;obtain ⟨A,D,y⟩:=hx;exact ⟨A,D,z _ y⟩
 ·exact j h
theorem SD (nb fr:Nat):∀g,g=0\/fr+g<=nbOf nb fr g
 | 0=>.inl rfl
 | _+1=>.inr (Nat.le_max_right _ _)
theorem ww {P:Program} {fr:Nat} {o:Oper} {e:Eff} {v:Option V} {wr:List (Nat×Blk)} {g:Nat} (h:zk P fr o e=(v,wr,g)) (c:g=0):e.new=false\/e.wr=none:=by
 unfold zk at h;split at h
 ·rename_i b;exact .inr b
 ·split at h
  ·rename_i a;exact .inl a
  ·split at h
   ·split at h;simp only [bC] at h;omega
   ·simp only [bC] at h;omega
theorem Md {P:Program} {fr nb:Nat} {o:Oper} {e:Eff} {v:Option V} {wr:List (Nat×Blk)} {g:Nat} (h:zk P fr o e=(v,wr,g)):
  (if e.new=true/\e.wr≠none then max nb (fr+1) else nb)<=nbOf nb fr g:=by
 cases g with
 | zero=>
  have:=ww h rfl;rw [ab (λhc=>by rcases this with h | h;rw [h] at hc;cases hc.1;exact hc.2 h)];exact aY _
 | succ g=>
  simp only [nbOf];split<;>omega
theorem gJ.new_eq {ι:Inj} {f:Nat} {o:Oper} {a:Act} {w:World} {e:Eff} (h:gJ P ι f o a w e) {C:Nat×Blk} (F:e.wr=some C) (E:e.new=true):C.1=f:=by
 unfold gJ at h;rw [F] at h;simp only [E] at h;exact h.1
theorem Eb {P:Program} {fr:Nat} {o:Oper} {e:Eff} {v:Option V} {wr:List (Nat×Blk)} {g:Nat} (h:zk P fr o e=(v,wr,g)) {n:Nat} {ι0 ι:Inj} {w0:Base} {s:St} {nb0 nb:Nat} {a:Act} {w:World}
  (k:Inv n ι0 w0 ι (s.app o.dst e.val e.wr.toList nb0) a w) (m:∀b,fr<=b->b<fr+g->(b=fr->e.wr=none)->ι b=none) (J:∀r,e.wr=some r->e.new=true->r.1=fr) (y:nb0<=nb) (C:g=0\/fr+g<=nb):
  ∃f,(∀b,(b<fr\/fr+g<=b)->f b=ι b)/\Inv n ι0 w0 f (s.app o.dst v wr nb) a w:=by
 have i:(e.val,e.wr.toList)=(v,wr)->∃f,(∀b,(b<fr\/fr+g<=b)->f b=ι b)/\Inv n ι0 w0 f (s.app o.dst v wr nb) a w:=by
  intro e;simp only [bC] at e;obtain ⟨rfl,rfl⟩:=e;exact ⟨ι,λ_ _=>rfl,k.setnb y⟩
 unfold zk at h;split at h
 ·rename_i j;rw [j] at k i;split at h
  ·rename_i t u M G;split at h;rename_i O H F;simp only [bC] at h;obtain ⟨rfl,rfl,rfl⟩:=h;rw [G] at k;obtain ⟨f,k1,k2⟩:=TA F (d:=o.dst) (s:=s) k (λb x K=>m b x K λ_=>j) y (C.imp (λh=>wG h) id);exact ⟨f,k1,k2⟩
  ·simp only [bC] at h;exact i (by simp [h.1,h.2.1])
 ·rename_i r j;rw [j] at i;split at h
  ·simp only [bC] at h;exact i (by simp [h.1,h.2.1])
  ·rename_i z;split at h
   ·rename_i t l N p;split at h;rename_i R H L;simp only [bC] at h;obtain ⟨rfl,rfl,rfl⟩:=h;obtain ⟨T,D,E⟩:=Bt _ _ _ _ _ _ L;rw [nP] at D;subst D;rw [j] at k;have x:=J r j z;obtain ⟨b,blk⟩:=r;simp only at p x;subst p x;obtain ⟨f,k1,k2,I,k4⟩:=E k (λc S Q=>m c (by omega) (by omega) (λq=>by omega)) nb y (C.elim (λh=>by omega) λh=>.inr (by omega));refine ⟨f,λc hc=>k1 c (by omega),?_⟩;have:=Inv.reH (A:=H) (B:=s.H) (b:=b) k4 I;simpa [St.app] using this
   ·simp only [bC] at h;exact i (by simp [h.1,h.2.1])
theorem QI {ι:Inj} {T:List (Nat×Option V)} {a:Act} (c:TR ι T a.tmps) {g:Operand} {f:Nat} {cap:List V} (h:opd T g=some (.fn f cap)):
  ∃b:Array Value,a.eval g=fnV f b/\VRs ι cap b.toList:=by
 have:=bu c h;simpa only [VR] using this
theorem zG {wr:List (Nat×Blk)} {ι:Inj} {b:Nat} {r:Option Rf} (h:vr wr ι b=some r):∃x∈wr,x.1=b:=by
 unfold vr at h;split at h
 ·rename_i a;obtain ⟨x,hx,c⟩:=ui.1 a;exact ⟨x,hx,bK c⟩
 ·cases h
theorem BP (wr:List (Nat×Blk)) (ι:Inj):∀b r,vr wr ι b=some r->ι b=some r:=by
 intro b r h;unfold vr at h;split at h
 ·exact h
 ·cases h
theorem Qd {K f:Nat} {ι:Inj} {o:Oper} {a:Act} {g:Operand} {args:Array Operand} {d:Array TypeId} {c:Array Value} {cap l:List V} (h:o.op=.call ⟨.value g,args,d⟩)
  (b:a.eval g=fnW K f c) (i:VRs ι cap c.toList) (e:VRs ι l (args.toList.map a.eval)) (w:World):
  ∃as:Array Value,VRs ι (fnAW K f l cap) as.toList/\(execOp a.eval o).run P w=(callFunc (fnFW K f) as).run P w:=by
 unfold fnAW fnFW;unfold fnW at b;cases j:Nat.blt f K<;>rw [j] at b<;>simp only at b ⊢
 ·refine ⟨c++args.map a.eval,by simpa using i.append e,?_⟩;simp only [execOp,h,resolve,b,Deferred.ofValue,Array.append_empty,aw,aD,ay,invoke]
 ·refine ⟨args.map a.eval++c,by simpa using e.append i,?_⟩;simp only [execOp,h,resolve,b,Deferred.ofValue,Array.empty_append,aw,aD,ay,invoke]
theorem zZ {n fr:Nat} {ι0 ι:Inj} {w0:Base} {s:St} {o:Oper} {a:Act} {w:World} {g:Operand} {args:Array Operand} {N:Array TypeId} {f:Nat} {cap l:List V} {r:CR}
  (ho:o.op=.call ⟨.value g,args,N⟩) (d:Inv n ι0 w0 ι s a w) (G:∀b,fr<=b->b<fr+r.grow->ι b=none) (hd:uS n o.dst=true)
  (hg:opd s.T g=some (.fn f cap)) (hl:opds (opd s.T) args.toList=some l) (B:r.wr.all (λx=>Nat.ble s.ro x.1)=true)
  (D:r.kill.all (λb=>Nat.ble s.rb b)=true) (hc:GoOK P (fnF f) (fnA f l cap) s.H fr r)
  {next:Act->World->Prop} {Q:Exit->Act->World->Prop}
  (hn:r.pan=false->∀i a' w',(∀b,isIn r.kill b=false->(b<fr\/fr+r.grow<=b)->i b=ι b)->Inv n ι0 w0 i ((s.kill r.kill).app o.dst (some r.val) r.wr (max s.nb (fr+r.grow))) a' w'->next a' w')
  (hp:r.pan=true->∀i x w',VR i r.val x->Inv n ι0 w0 i ((s.kill r.kill).app none none r.wr (max s.nb (fr+r.grow))) a w'->Q (.panic [{ v:=x,recovered:=false }]) a w'):
  o.wp P a w next Q:=by
 obtain ⟨cs,M,h2⟩:=QI d.tmps hg;have h3:=wO d.tmps hl;obtain ⟨as,K,t⟩:=Qd (P:=P) ho (show a.eval g=fnW 1000000 f cs from M) h2 h3 w;rcases hc with ⟨hE,hc⟩ | ⟨a1,a2,a3,a4,I⟩
 case inr=>
  obtain ⟨x,C,hx⟩:=I ι w as K;have m:(execOp a.eval o).run P w=.ok (.value x) w:=by rw [t];exact C
  unfold Oper.wp;rw [m];refine hn a1 ι _ _ (λ_ _ _=>rfl) ?_;rw [a2,a3,a4,cN];refine ⟨by rw [mX];exact d.size,by rw [jE];exact d.defers,TR.app (s:=s) d.tmps d.size hd (λu S=>by cases S;exact hx),?_,d.ext,d.new,d.fr,d.low,d.fz,d.gl⟩;exact ⟨d.mem.inj,λb q E=>rh (d.mem.low b q E) (EY _ _),d.mem.dom,d.mem.blk⟩
 have m:(execOp a.eval o).run P w=.ok (.enter (fnF f) as) w:=by rw [t];exact hE _ _
 unfold Oper.wp;rw [m];simp only [Oper.upon];refine (hc ι s.nb w as d.mem (d.glHere λb q j=>by
  obtain ⟨x,hx,rfl⟩:=zG j;exact ⟨BP r.wr ι x.1 _ j,aI (cL.1 B x hx)⟩) (λx hx q E=>by
  cases hc:q.fz with
  | false=>rfl
  | true=>have:=d.fz x.1 q E hc;have:=aI (cL.1 B x hx);omega) (λb W hb2=>G b W (by omega)) K).mono λe w' h=>?_
 obtain ⟨i,U,g0,g2,g6,g3,g4,Z⟩:=h;have L:∀b q,i b=some (some q)->q.fz=true->b<s.ro:=λb q j E=>d.fz b q (g6 b q j E) E;have J:∀b,isIn r.kill b=true->s.rb<=b:=by
  intro b j;obtain ⟨c,hc1,O⟩:=ui.1 j;rw [bK O];exact aI (cL.1 D c hc1)
 have p:∀b,isIn r.kill b=false->∀q,ι b=some q->i b=some q:=by
  intro b A q j;rw [U b A ?_];exact j;rcases aH b fr with h | h
  ·exact .inl h
  ·rcases aH b (fr+r.grow) with h' | h'
   ·have:=G b h (by omega);rw [this] at j;cases j
   ·exact .inr h'
 have k:∀b q,ι0 b=some q->i b=some q\/s.rb<=b:=by
  intro b q j;rcases d.ext b q j with h | h
  ·cases A:isIn r.kill b with
   | true=>exact .inr (J b A)
   | false=>exact .inl (p b A q h)
  ·exact .inr h
 have y:∀b q,i b=some (some q)->(∃F,ι0 b=some (some F)/\F.r=q.r)\/w0.w.heap.size<=q.r:=by
  intro b q j;cases A:isIn r.kill b with
  | true=>
   rcases g0 b q A j with ⟨F,X,h7⟩ | X
   ·rw [<-h7];exact d.new b F X
   ·exact .inr (ri d.fr.size X)
  | false=>
   by_cases R:b<fr\/fr+r.grow<=b
   ·rw [U b A R] at j;exact d.new b q j
   ·have:=g2 b q (by omega) (by omega) j;exact .inr (ri d.fr.size this)
 have z:Fr (roI ι0 s.ro) w0.w w':=d.fr.trans (λb q j=>by
  obtain ⟨x,hx,rfl⟩:=zG j;have M:=aI (cL.1 B x hx);exact (d.new x.1 q (BP r.wr ι x.1 _ j)).imp (λ⟨F,h,hr⟩=>⟨F,DU h M,hr⟩) id) g4
 have hT:=d.tmps.kill p;rw [St.kill_eq] at hn hp;cases e with
 | returned x=>
  obtain ⟨p1,p2⟩:=Z;refine hn p1 i _ _ U ⟨by rw [mX];exact d.size,by rw [jE];exact d.defers,TR.app (s:={ T:=vw r.kill s.T,H:=Bq r.kill s.H,nb:=s.nb,lo:=s.lo,ro:=s.ro,rb:=s.rb }) hT d.size hd (λu S=>by cases S;exact p2),g3,k,y,z,d.low,L,d.gl⟩
 | panicked Y=>
  obtain ⟨p1,x,rfl,p2⟩:=Z;exact hp p1 i x _ p2 ⟨d.size,d.defers,hT,g3,k,y,z,d.low,L,d.gl⟩
 | outgrown=>exact Z.elim
theorem He {α:Type} {E:List Ent} (hE:∀x∈E,fF P x) {n fr:Nat} {ι0 ι:Inj} {w0:Base} {s:St} {o:Oper} {a:Act} {w:World} (I:Inv n ι0 w0 ι s a w)
  (u:∀b,fr<=b->b<fr+8->ι b=none) {k:St->List Nat->List (Nat×Blk)->Nat->Option α} {kp:V->St->Option α} {z:α} (h:CS P E n fr o s k kp=some z)
  {next:Act->World->Prop} {Q:Exit->Act->World->Prop}
  (hn:∀s' rd wr g c p w',k s' rd wr g=some z->(∀b,(b<fr\/fr+g<=b)->c b=ι b)->Inv n ι0 w0 c s' p w'->next p w')
  (hp:∀v s' c x p w',kp v s'=some z->VR c v x->Inv n ι0 w0 c s' p w'->Q (.panic [{ v:=x,recovered:=false }]) p w'):
  o.wp P a w next Q:=by
 have Z:ι fr=none:=u fr (aY _) (by omega);unfold CS at h;split at h
 ·cases h
 rename_i hd;have M:uC P fr o s k=some z->o.wp P a w next Q:=by
  intro h;unfold uC at h;obtain ⟨e,R,J⟩:=Lj I.tmps I.mem Z h;split at R;rename_i v wr g D;split at R
  case h_2=>cases R
  rename_i K;simp only [az] at K;have Y:=aI K.2;have A:∀O,e.wr=some O->e.new=true->O.1=fr:=λO T F=>gJ.new_eq J T F;refine GE I Z hd J (λF O T=>by
   have:=K.1;unfold roOK at this;rw [T] at this;simp only [F] at this;exact aI this) λc p w' C g2 d=>?_
  obtain ⟨U,k1,k2⟩:=Eb D d (λb X e2 e3=>by
   by_cases j:b=fr
   ·subst j;rw [g2 (.inr (e3 rfl))];exact Z
   ·rw [C b j];exact u b X (by omega)) A (nb:=nbOf s.nb fr g) (Md D) (SD s.nb fr g)
  refine hn _ _ _ _ U p w' R (λb W=>?_) k2;rw [k1 b W];by_cases j:b=fr
  ·subst j;refine g2 (ww D (by omega))
  ·exact C b j
 split at h
 ·rename_i cl G;split at h
  ·rename_i g q;split at h
   ·rename_i f cap hg;obtain ⟨l,hl,h⟩:=av h;obtain ⟨r,H,h3⟩:=vU hE h;split at H
    ·cases H
    rename_i m;simp only [az] at m;have B:r.kill=[]:=by simpa using m.2.2
    have Y:=aI m.1;obtain ⟨N,args,tys⟩:=cl;simp only at q;subst q;refine zZ G I (λb X e2=>u b X (by omega)) hd hg hl m.2.1 (by rw [B];rfl) (h3 _ λ_ _=>rfl) (λi c p w' C d=>?_) (λi c x w' C d=>?_)
    ·rw [i] at H;rw [B] at C d;exact hn _ _ _ _ c p w' H (λb K=>C b rfl K) d
    ·rw [i] at H;rw [B] at d;exact hp _ _ c x a w' H C d
   ·cases h
  ·exact M h
 ·rename_i x G;split at h
  ·rename_i t v hx;have S:=bu I.tmps hx;have hv':=S;simp only [VR] at S;obtain ⟨y,h6,_⟩:=S;unfold Oper.wp;have L:(execOp a.eval o).run P w=.halt (.panic (.iface t y)) w:=by
    simp only [execOp,G,h6,Instr.panic,aw,run_goPanic,Result.andThen_halt]
   rw [L];exact hp _ _ ι _ a w h (h6▸hv') I
  ·cases h
 ·exact M h
theorem TR.again {ι:Inj} {T:List (Nat×Option V)} {F:Array Value} (E:TR ι T F) {d:Nat} {v:V} (G:look T d=some (some v)):TR ι ((d,some v)::T) F:=by
 intro t u C;rw [aU] at C;split at C
 ·rename_i e;subst e;simp only [au] at C;subst C;exact E d v G
 ·exact E t u C
theorem Inv.again {n:Nat} {ι0 ι:Inj} {w0:Base} {s:St} {a:Act} {w:World} (h:Inv n ι0 w0 ι s a w) {d:Nat} {v:V} (C:look s.T d=some (some v)):
  Inv n ι0 w0 ι { s with T:=(d,some v)::s.T } a w:=
 ⟨h.size,h.defers,h.tmps.again C,h.mem,h.ext,h.new,h.fr,h.low,h.fz,h.gl⟩
theorem rq {ops:List Oper} {j d:Nat} (h:gtmp ops j=some d) (a:Array Value):
  yielded ops.toArray a j=match a[d]? with | some (.bool b)=>some b | _=>none:=by
 unfold gtmp at h;split at h
 ·rename_i o c;have:(ops.toArray[j]?).bind (·.dst)=some d:=by simp [c,h]
  unfold yielded;rw [this];rfl
 ·cases h
theorem LW {α:Type} {n:Nat} {ι0 ι:Inj} {w0:Base} {ops:List Oper} {o:Oper} {s:St} {a:Act} {w:World} (f:Inv n ι0 w0 ι s a w) {k:Bool->St->Option α} {z:α}
  (h:wY ops o s k=some z):∃c s',k c s'=some z/\Inv n ι0 w0 ι s' a w/\Region.wanted o (yielded ops.toArray a.tmps)=c/\(∀t,look s'.T t=look s.T t)/\s'.H=s.H/\s'.nb=s.nb:=by
 unfold wY at h;split at h
 ·rename_i g;exact ⟨true,s,h,f,by simp [Region.wanted,g],λ_=>rfl,rfl,rfl⟩
 ·rename_i j c g;split at h
  case h_2=>cases h
  rename_i d m;have hy:=rq m a.tmps;have again:∀x,look s.T d=some (some (.b x))->∀t,look ((d,some (V.b x))::s.T) t=look s.T t:=by
   intro x hx t;rw [aU];split
   ·rename_i e;subst e;exact hx.symm
   ·rfl
  split at h
  ·rename_i x hx;obtain ⟨y,l,i⟩:=f.tmps d _ hx;simp only [VR] at i;subst i;rw [l] at hy;cases x
   ·exact ⟨!c,_,h,f.again hx,by cases c<;>simp [Region.wanted,g,hy],again _ hx,rfl,rfl⟩
   ·exact ⟨c,_,h,f.again hx,by cases c<;>simp [Region.wanted,g,hy],again _ hx,rfl,rfl⟩
  ·rename_i hx;obtain ⟨y,l,i⟩:=f.tmps d _ hx;simp only [VR] at i;obtain ⟨p,rfl,_⟩:=i;rw [l] at hy;exact ⟨false,s,h,f,by simp [Region.wanted,g,hy],λ_=>rfl,rfl,rfl⟩
  ·cases h
theorem Qb (ι:Inj):VR ι (.tp []) undef:=by
 simp only [VR];exact ⟨#[],rfl,by simp [VRs]⟩
theorem Inv.skip {n:Nat} {ι0 ι:Inj} {w0:Base} {s:St} {a:Act} {w:World} (h:Inv n ι0 w0 ι s a w) {d:Option Nat} (C:uS n d=true):
  Inv n ι0 w0 ι (s.app d (some (.tp [])) [] s.nb) (a.put d undef) w:=
 ⟨by rw [mX];exact h.size,by rw [jE];exact h.defers,h.tmps.app h.size C (λu E=>by cases E;exact Qb ι),h.mem,h.ext,h.new,h.fr,h.low,h.fz,h.gl⟩
theorem Inv.fresh {n:Nat} {ι0 ι:Inj} {w0:Base} {s:St} {a:Act} {w:World} (h:Inv n ι0 w0 ι s a w):∀b,s.nb<=b->ι b=none:=by
 intro b C;cases hi:ι b with
 | none=>rfl
 | some r=>have:=h.mem.low b r hi;omega
end Go.Abs
