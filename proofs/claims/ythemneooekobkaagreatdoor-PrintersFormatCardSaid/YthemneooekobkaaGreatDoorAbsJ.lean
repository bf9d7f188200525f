
/- The interpreter is sound: what it comes to is what the model's code comes to.
   Conditions: none; generic over the program. -/
import Derived.Test.YthemneooekobkaaGreatDoorAbsI
set_option linter.unusedSimpArgs false
set_option linter.unusedVariables false
namespace Go.Abs
variable {P:Program}
def lu (P:Program) (f:Nat):Prop:=∀(args:Array Value) (w:World),(callFunc f args).run P w=.ok (.enter f args) w
def RetR (ι:Inj) (r:CR):Ending->Prop
 | .returned x=>r.pan=false/\VR ι r.val x
 | .panicked a=>r.pan=true/\∃x,a=[{ v:=x,recovered:=false }]/\VR ι r.val x
 | .outgrown=>False
def vW (wr:List (Nat×Blk)) (ι:Inj):Inj:=λb=>if wr.any (λx=>Nat.beq x.1 b) then ι b else none
def HB (P:Program) (f:Nat) (args:List V) (H:List (Nat×Blk)) (fr:Nat) (r:CR):Prop:=
 ∀(ι:Inj) (nb:Nat) (w:World) (c:Array Value),WR ι H nb w->GL (vW r.wr ι) w->(∀x∈r.wr,∀q,ι x.1=some (some q)->q.fz=false)->(∀b,fr<=b->b<fr+r.grow->ι b=none)->VRs ι args c.toList->
  Calls P f c w λe w'=>∃a:Inj,(∀b,isIn r.kill b=false->(b<fr\/fr+r.grow<=b)->a b=ι b)/\
   (∀b q,isIn r.kill b=true->a b=some (some q)->(∃d,ι b=some (some d)/\d.r=q.r)\/w.heap.size<=q.r)/\(∀b q,fr<=b->b<fr+r.grow->a b=some (some q)->w.heap.size<=q.r)/\(∀b q,a b=some (some q)->q.fz=true->ι b=some (some q))/\
   WR a (r.wr++C9 r.kill H) (max nb (fr+r.grow)) w'/\Fr (vW r.wr ι) w w'/\RetR a r e
mutual
theorem VR.kill {ι J:Inj} {K:List Nat} (h:∀b,isIn K b=false->∀q,ι b=some q->J b=some q):∀(v:V) (x:Value),VR ι v x->VR J (V.kill K v) x
 | .b _,_,hx | .i _ _,_,hx | .s _,_,hx | .pn,_,hx | .sn,_,hx | .nf,_,hx | .ni,_,hx | .ai _ _ _,_,hx | .unk,_,hx=>by simpa only [V.kill,VR] using hx
 | .p c o,x,hx=>by
  simp only [VR] at hx;obtain ⟨q,C,rfl⟩:=hx;simp only [V.kill];cases hc:isIn K c with
  | true=>simp [VR,Value.cells,Value.oneCell']
  | false=>simp only [af,VR];exact ⟨q,h c hc _ C,rfl⟩
 | .mp c,x,hx=>by
  simp only [VR] at hx;obtain ⟨q,C,rfl⟩:=hx;simp only [V.kill];cases hc:isIn K c with
  | true=>simp [VR,Value.cells,Value.oneCell']
  | false=>simp only [af,VR];exact ⟨q,h c hc _ C,rfl⟩
 | .pr z c j o,x,hx=>by
  simp only [VR] at hx;obtain ⟨q,C,rfl⟩:=hx;simp only [V.kill];cases hc:isIn K c with
  | true=>simp [VR,Value.cells,Value.oneCell']
  | false=>simp only [af,VR];exact ⟨q,h c hc _ C,rfl⟩
 | .sl c o n m,x,hx=>by
  simp only [VR] at hx;obtain ⟨q,cp,C,E,O,rfl⟩:=hx;simp only [V.kill];cases hc:isIn K c with
  | true=>simp [VR,Value.cells,Value.oneCell']
  | false=>simp only [af,VR];exact ⟨q,cp,h c hc _ C,E,O,rfl⟩
 | .ws c,x,hx=>by
  simp only [VR] at hx;simp only [V.kill];cases hc:isIn K c with
  | true=>rcases hx with ⟨q,C,rfl⟩ | ⟨C,F,rfl⟩<;>simp [VR,Value.cells,Value.oneCell']
  | false=>
   simp only [af,VR];rcases hx with ⟨q,C,rfl⟩ | ⟨C,F,rfl⟩
   ·exact .inl ⟨q,h c hc _ C,rfl⟩
   ·exact .inr ⟨h c hc _ C,F,rfl⟩
 | .rs z c j n _,x,hx=>by
  simp only [VR] at hx;simp only [V.kill];cases hc:isIn K c with
  | true=>rcases hx with ⟨q,cp,o,C,E,O,rfl⟩ | ⟨C,E,F,rfl⟩<;>simp [VR,Value.cells,Value.oneCell']
  | false=>
   simp only [af,VR];rcases hx with ⟨q,cp,o,C,E,O,rfl⟩ | ⟨C,E,F,rfl⟩
   ·exact .inl ⟨q,cp,o,h c hc _ C,E,O,rfl⟩
   ·exact .inr ⟨h c hc _ C,E,F,rfl⟩
 | .fn f cap,x,hx=>by
  simp only [V.kill,VR] at hx ⊢;obtain ⟨G,C,E⟩:=hx;exact ⟨G,C,VRs.kill h _ _ E⟩
 | .it t v,x,hx=>by
  simp only [V.kill,VR] at hx ⊢;obtain ⟨y,C,E⟩:=hx;exact ⟨y,C,VR.kill h _ _ E⟩
 | .ag l,x,hx=>by
  simp only [V.kill,VR] at hx ⊢;obtain ⟨G,C,E⟩:=hx;exact ⟨G,C,VRs.kill h _ _ E⟩
 | .tp l,x,hx=>by
  simp only [V.kill,VR] at hx ⊢;obtain ⟨G,C,E⟩:=hx;exact ⟨G,C,VRs.kill h _ _ E⟩
theorem VRs.kill {ι C:Inj} {K:List Nat} (h:∀b,isIn K b=false->∀q,ι b=some q->C b=some q):∀(l:List V) (E:List Value),VRs ι l E->VRs C (V.kills K l) E
 | [],_,hx=>by simpa [V.kills,VRs] using hx
 | v::l,E,hx=>by
  simp only [V.kills,VRs] at hx ⊢;obtain ⟨y,F,G,J,O⟩:=hx;exact ⟨y,F,G,VR.kill h _ _ J,VRs.kill h _ _ O⟩
end
theorem BR.kill {ι E:Inj} {K:List Nat} (h:∀b,isIn K b=false->∀q,ι b=some q->E b=some q) {q:Rf}:∀{blk:Blk} {o:Obj},BR ι q blk o->BR E q (blk.kill K) o
 | .dead,_,_=>trivial
 | .rows t l,o,C=>C
 | .cells l,o,C=>by
  obtain ⟨G,e,fr,F,J,O⟩:=C;exact ⟨G,e,fr,F,VRs.kill h _ _ J,O⟩
 | .ints k n l,o,C=>C
 | .iter s pos,o,C=>C
 | .mp k l,o,C=>C
theorem vI (K:List Nat):∀(T:List (Nat×Option V)) (t:Nat),look (wq K T) t=(look T t).map (Option.map (V.kill K))
 | [],t=>rfl
 | (u,none)::T,t=>by
  simp only [wq,aV,vI K T];split<;>rfl
 | (u,some v)::T,t=>by
  simp only [wq,aV,vI K T];split<;>rfl
theorem vw (K:List Nat):∀(H:List (Nat×Blk)) (b:Nat),look (C9 K H) b=(look H b).map (Blk.kill K)
 | [],t=>rfl
 | (u,v)::T,t=>by
  simp only [C9,aV,vw K T];split<;>rfl
theorem TR.kill {ι E:Inj} {K:List Nat} (h:∀b,isIn K b=false->∀q,ι b=some q->E b=some q) {T:List (Nat×Option V)} {G:Array Value} (O:TR ι T G):TR E (wq K T) G:=by
 intro t v C;rw [vI] at C;cases F:look T t with
 | none=>simp [F] at C
 | some o=>
  cases o with
  | none=>simp [F] at C
  | some u=>
   simp only [F,fg,av] at C;subst C;obtain ⟨x,J,Q⟩:=O t u F;exact ⟨x,J,VR.kill h _ _ Q⟩
mutual
theorem V.kill_nil:∀v:V,V.kill [] v=v
 | .b _ | .i _ _ | .s _ | .pn | .sn | .nf | .ni | .ai _ _ _ | .unk | .p _ _ | .pr _ _ _ _ | .sl _ _ _ _ | .ws _ | .rs _ _ _ _ _ | .mp _=>rfl
 | .fn f l | .ag l | .tp l=>by simp only [V.kill,V.kills_nil l]
 | .it t v=>by simp only [V.kill,V.kill_nil v]
theorem V.kills_nil:∀l:List V,V.kills [] l=l
 | []=>rfl
 | v::l=>by simp only [V.kills,V.kill_nil v,V.kills_nil l]
end
theorem uG:∀H:List (Nat×Blk),C9 [] H=H
 | []=>rfl
 | (b,x)::H=>by
  simp only [C9,uG H];cases x<;>simp only [Blk.kill,V.kills_nil]
theorem ze:∀T:List (Nat×Option V),wq [] T=T
 | []=>rfl
 | (b,none)::T=>by simp only [wq,ze T]
 | (b,some x)::T=>by simp only [wq,ze T,V.kill_nil]
theorem St.kill_eq (K:List Nat) (s:St):s.kill K={ T:=wq K s.T,H:=C9 K s.H,nb:=s.nb,lo:=s.lo,ro:=s.ro,rb:=s.rb }:=by
 cases K with
 | nil=>simp only [St.kill,ze,uG]
 | cons b K=>rfl
def Y6 (P:Program) (f:Nat) (args:List V) (r:CR):Prop:=
 r.pan=false/\r.wr=[]/\r.grow=0/\r.kill=[]/\∀(ι:Inj) (w:World) (a:Array Value),VRs ι args a.toList->∃x,(callFunc f a).run P w=.ok (.value x) w/\VR ι r.val x
def GoOK (P:Program) (f:Nat) (args:List V) (H:List (Nat×Blk)) (fr:Nat) (r:CR):Prop:=(lu P f/\HB P f args H fr r)\/Y6 P f args r
def fM (P:Program) (x:Ent):Prop:=
 ∀(α:Type) (args:List V) (H:List (Nat×Blk)) (fr:Nat) (k:CR->Option α) (z:α),x.e α args H fr k=some z->
  ∃r,k r=some z/\∀a,(∀b∈r.rd,look a b=look H b)->GoOK P x.f args a fr r
theorem wW {α:Type} {f:Nat} {args:List V} {H:List (Nat×Blk)} {fr:Nat} {k:CR->Option α} {z:α}:∀{E:List Ent},(∀x∈E,fM P x)->J8 α f args H fr k E=some z->
  ∃r,k r=some z/\∀c,(∀b∈r.rd,look c b=look H b)->GoOK P f args c fr r
 | [],_,h=>by simp [J8] at h
 | x::E,d,h=>by
  simp only [J8] at h;cases a:Nat.beq x.f f with
  | true=>
   rw [a] at h;have e:=bB a;subst e;exact d x (by simp) α args H fr k z h
  | false=>
   rw [a] at h;exact wW (λy hy=>d y (f7 _ hy)) h
def ExR (ι:Inj):Ex->Exit->Prop
 | .normal,e=>e=.normal
 | .exit id,e=>e=.exit id
 | .ret,e=>e=.ret
 | .pan v,e=>∃x,e=.panic [{ v:=x,recovered:=false }]/\VR ι v x
def Post (n:Nat) (ι0:Inj) (w0:Base) (b:Ex->St->Prop):Exit->Act->World->Prop:=
 λe a w=>∃ex s ι,ExR ι ex e/\Inv n ι0 w0 ι s a w/\b ex s
def SemC (P:Program) (n:Nat) (c:Code) (s:St) (b:Ex->St->Prop):Prop:=
 ∀(ι0:Inj) (w0:Base) (ι:Inj) (a:Act) (w:World),Inv n ι0 w0 ι s a w->c.wp P (Post n ι0 w0 b) a w
def kb (P:Program) (n:Nat) (L:List Sub):AC->Prop
 | .seq a b | .cond _ a b=>kb P n L a/\kb P n L b
 | .block _ a | .scope a | .loop a=>kb P n L a
 | .sub m c=>∀(α:Type) (s:St) (k:Ex->St->Option α) (z:α),JL α m s k L=some z->SemC P n c.code s λex s'=>k ex s'=some z
 | _=>True
theorem Fr.trans {ι0 O:Inj} {w0 w w':World} (h:Fr ι0 w0 w) (Q:∀b q,O b=some (some q)->(∃G,ι0 b=some (some G)/\G.r=q.r)\/w0.heap.size<=q.r) (E:Fr O w w'):Fr ι0 w0 w':=by
 refine ⟨E.os.trans h.os,E.tape.trans h.tape,E.output.trans h.output,rQ h.size E.size,λk F C=>?_⟩;rw [E.blk k (pi F h.size) ?_,h.blk k F C];intro b q U;rcases Q b q U with ⟨G,J,W⟩ | J
 ·rw [<-W];exact C b G J
 ·omega
theorem nG (a:Act) (d:Option Nat) (v:Value):(a.put d v).tmps.size=a.tmps.size:=by
 cases d<;>simp [Act.put]
theorem jU (a:Act) (d:Option Nat) (v:Value):(a.put d v).defers=a.defers:=by
 cases d<;>rfl
theorem TR.app {ι:Inj} {s:St} {a:Act} {n:Nat} {d:Option Nat} {v:Option V} {x:Value} {wr:List (Nat×Blk)} {nb:Nat} (C:TR ι s.T a.tmps) (hs:a.tmps.size=n) (F:vv n d=true)
  (E:∀u,v=some u->VR ι u x):TR ι (s.app d v wr nb).T (a.put d x).tmps:=by
 cases d with
 | none=>exact C
 | some d=>exact C.put (by rw [hs];exact aL F) E
theorem Inv.drawn {n:Nat} {ι0 ι:Inj} {w0:Base} {s:St} {a:Act} {w:World} (h:Inv n ι0 w0 ι s a w) (m:Nat):Inv n ι0 w0 ι s a { w with drawn:=m }:=
 ⟨h.size,h.defers,h.tmps,h.mem.draws m,h.ext,h.new,h.fr.draws m,h.low,h.fz,h.gl⟩
theorem Ie {n fr:Nat} {ι0 ι:Inj} {w0:Base} {s:St} {o:Oper} {a:Act} {w:World} {e:Eff} (f:Inv n ι0 w0 ι s a w) (I:ι fr=none) (B:vv n o.dst=true)
  (h:gR P ι fr o a w e) (z:e.new=false->∀H,e.wr=some H->s.ro<=H.1) {next:Act->World->Prop} {Q:Exit->Act->World->Prop}
  (C:∀g K w',(∀b,b≠fr->g b=ι b)->(e.new=false\/e.wr=none->g fr=ι fr)->
   Inv n ι0 w0 g (s.app o.dst e.val e.wr.toList (if e.new=true/\e.wr≠none then max s.nb (fr+1) else s.nb)) K w'->next K w'):
  o.wp P a w next Q:=by
 have l:∀{x:Next} {w':World} {g:Inj},(execOp a.eval o).run P w=.ok x w'->NextR g e.val x->(∀y,(∀u,e.val=some u->VR g u y)->next (a.put o.dst y) w')->o.wp P a w next Q:=by
  intro x w' g D hx hy;unfold Oper.wp;rw [D];cases hx with
  | skip E=>exact hy _ (λu L=>by rw [E] at L;cases L)
  | value x E=>exact hy _ E
 unfold gR at h;split at h
 ·rename_i k;obtain ⟨x,m,t⟩:=h;refine l m t λy hy=>C ι _ _ (λ_ _=>rfl) (λ_=>rfl) ?_;rw [k];simp only [ne_eq,vj,and_false,aE];exact ⟨by rw [nG];exact f.size,by rw [jU];exact f.defers,f.tmps.app f.size B hy,f.mem,f.ext,f.new,f.fr,f.low,f.fz,f.gl⟩
 ·rename_i b blk k;split at h
  ·rename_i i;obtain ⟨r,m,M⟩:=h;have v:r.fz=false:=by
    cases hc:r.fz with
    | false=>rfl
    | true=>have:=f.fz b r m hc;have:=z i _ k;simp only at this;omega
   obtain ⟨ob,x,t,F,A⟩:=M v;refine l t A λy hy=>C ι _ _ (λ_ _=>rfl) (λ_=>rfl) ?_;rw [k,i];simp only [bz,xi,aE];refine ⟨by rw [nG];exact f.size,by rw [jU];exact f.defers,f.tmps.app f.size B hy,f.mem.write m v F,f.ext,f.new,?_,f.low,f.fz,f.gl⟩;exact f.fr.write ((f.new b r m).imp (λ⟨N,h,D⟩=>⟨b,N,DL h (z i _ k),D⟩) id) _
  ·rename_i i;obtain ⟨rfl,d,q,ob,x,t,J,G,F,A⟩:=h;have j:=ql (r:=some q) I;refine l t A λy hy=>C (upd ι b (some q)) _ _ (λc hc=>by simp [upd,hc]) (λhc=>by rw [i,k] at hc;simp at hc) ?_;rw [k,i];simp only [ne_eq,reduceCtorEq,He,and_self,aM]
   refine ⟨by rw [nG];exact f.size,by rw [jU];exact f.defers,(f.tmps.mono j).app f.size B hy,(f.mem.draws d).alloc I (by simp only [St.app];omega) (by simp only [St.app];omega) J F,λc q hc=>(f.ext c q hc).imp (j _ _) id,λc q hc=>?_,(f.fr.draws d).alloc ob,f.low,λc p hc hp=>by
    unfold upd at hc;split at hc
    ·simp only [av] at hc;subst hc;rw [G] at hp;cases hp
    ·exact f.fz c p hc hp,f.gl⟩
   unfold upd at hc;split at hc
   ·simp only [av] at hc;subst hc;exact .inr (by rw [J];exact f.fr.size)
   ·exact f.new c q hc
theorem Inv.phantom' {n:Nat} {ι0 ι:Inj} {w0:Base} {s:St} {a:Act} {w:World} (E:Inv n ι0 w0 ι s a w) {g:Nat} (W:ι g=none) {nb:Nat} (Q:s.nb<=nb) (Y:g<nb) (tr:List Lf):
  Inv n ι0 w0 (upd ι g none) { T:=s.T,H:=(g,.rows tr [])::s.H,nb:=nb,lo:=s.lo,ro:=s.ro,rb:=s.rb } a w:=by
 have G:=ql (r:=none) W;have F:∀b,b≠g->upd ι g none b=ι b:=λb J=>by simp [upd,J]
 have C:∀b q,upd ι g none b=some (some q)->ι b=some (some q):=by
  intro b q h;by_cases J:b=g
  ·subst J;rw [dN] at h;cases h
  ·rwa [F b J] at h
 refine ⟨E.size,E.defers,E.tmps.mono G,⟨λb Z q q' X e2=>E.mem.inj b Z q q' (C _ _ X) (C _ _ e2),λb q e=>?_,λb q e=>E.mem.dom b q (C _ _ e),λb y O hd=>?_⟩,
  λb q e=>(E.ext b q e).imp (G _ _) id,λb q e=>E.new b q (C _ _ e),E.fr,E.low,λb q e=>E.fz b q (C _ _ e),E.gl⟩
 ·by_cases J:b=g
  ·subst J;exact Y
  ·rw [F b J] at e;exact pi (E.mem.low b q e) Q
 ·rw [aV] at O;split at O
  ·rename_i e;subst e;simp only [av] at O;subst O;exact .inr ⟨dN _ _ _,tr,rfl⟩
  ·rename_i U;exact (E.mem.blk b y O hd).map (F b (λe=>U e.symm)) (λ_ _=>rfl) (λ_ _ h=>BR.mono G h) (λ_ h=>h)
theorem Inv.setnb {n:Nat} {ι0 ι:Inj} {w0:Base} {s:St} {a:Act} {w:World} (C:Inv n ι0 w0 ι s a w) {nb:Nat} (h:s.nb<=nb):
  Inv n ι0 w0 ι { T:=s.T,H:=s.H,nb:=nb,lo:=s.lo,ro:=s.ro,rb:=s.rb } a w:=
 ⟨C.size,C.defers,C.tmps,⟨C.mem.inj,λb q e=>pi (C.mem.low b q e) h,C.mem.dom,C.mem.blk⟩,C.ext,C.new,C.fr,C.low,C.fz,C.gl⟩
theorem SX {ι:Inj} {g:Nat} (a:ι g=some none) {x:Value} (h:VR ι .sn x):VR ι (.ws g) x:=by
 simp only [VR] at h ⊢;exact .inr ⟨a,none,h⟩
theorem Bf:∀(ns:List (Nat×List Lf)) (g:Nat) (l:List V) (d:List (Nat×Blk)) (p:List V) (H:List (Nat×Blk)),nilL g ns l d=(p,H)->∃m,H=m++d/\
  ∀{n:Nat} {ι0 ι:Inj} {w0:Base} {s:St} {a:Act} {w:World},Inv n ι0 w0 ι s a w->(∀b,g<=b->b<g+m.length->ι b=none)->∀nb,s.nb<=nb->(m=[]\/g+m.length<=nb)->
   ∃c,(∀b,(b<g\/g+m.length<=b)->c b=ι b)/\(∀b q,ι b=some q->c b=some q)/\(∀o,VRs c l o->VRs c p o)/\
    Inv n ι0 w0 c { T:=s.T,H:=m++s.H,nb:=nb,lo:=s.lo,ro:=s.ro,rb:=s.rb } a w
 | [],g,l,d,p,H,h=>by
  simp only [nilL,bM] at h;obtain ⟨rfl,rfl⟩:=h;exact ⟨[],rfl,λ{n ι0 ι w0 s a w} z f nb A y=>⟨ι,λ_ _=>rfl,λ_ _ h=>h,λ_ h=>h,z.setnb A⟩⟩
 | (i,tr)::r,g,l,d,p,H,h=>by
  simp only [nilL] at h;split at h
  ·rename_i hi;obtain ⟨v,rfl,E⟩:=Bf r (g+1) _ _ _ _ h;refine ⟨v++[(g,.rows tr [])],by simp,λ{n ι0 ι w0 s a w} z f nb A y=>?_⟩;have t:(v++[((g,.rows tr []):Nat×Blk)]).length=v.length+1:=by simp
   rw [t] at f y ⊢;have y:g+(v.length+1)<=nb:=y.resolve_left (by simp);have D:=f g (aX _) (by omega);have u:=ql (r:=none) D
   obtain ⟨c,k1,k2,k3,k4⟩:=E (z.phantom' D A (by omega) tr) (λb I G=>by
    have:upd ι g none b=ι b:=by simp [upd,show b≠g by omega]
    rw [this];exact f b (by omega) (by omega)) nb (aX _) (.inr (by omega))
   refine ⟨c,λb C=>?_,λb q C=>k2 b q (u b q C),λo hx=>k3 o ?_,by simpa using k4⟩
   ·rw [k1 b (by omega)];simp [upd,show b≠g by omega]
   ·obtain ⟨x,k,B⟩:=hx.get hi;have:=hx.set i (SX (g:=g) (k2 _ _ (dN _ _ _)) B);rwa [show o.set i x=o from by
     apply zP;intro j;rw [List.getElem?_set];split
     ·rename_i e;subst e;split
      ·exact k.symm
      ·rename_i F;rw [ga (by omega)] at k;cases k
     ·rfl] at this
  ·exact Bf r g l d p H h
theorem UL {α:Type} (l m:List (Nat×α)) (n:Nat):look (l++m) n=(look l n).or (look m n):=by
 induction l with
 | nil=>rfl
 | cons x l ih=>
  obtain ⟨k,v⟩:=x;rw [eK,aV,aV,ih];split<;>rfl
theorem Inv.reH {n:Nat} {ι0 ι:Inj} {w0:Base} {T:List (Nat×Option V)} {A B:List (Nat×Blk)} {b nb lo ro rb:Nat} {l G:List V} {a:Act} {w:World}
  (E:Inv n ι0 w0 ι ⟨T,A++(b,.cells l)::B,nb,lo,ro,rb⟩ a w) (h:∀O,VRs ι l O->VRs ι G O):Inv n ι0 w0 ι ⟨T,A++(b,.cells G)::B,nb,lo,ro,rb⟩ a w:=by
 refine ⟨E.size,E.defers,E.tmps,⟨E.mem.inj,E.mem.low,E.mem.dom,λc y hc Q=>?_⟩,E.ext,E.new,E.fr,E.low,E.fz,E.gl⟩;have C:=E.mem.blk c;rw [UL,aV] at hc C;cases J:look A c with
 | some z=>rw [J] at hc C;exact C y hc Q
 | none=>
  rw [J] at hc C;simp only [GB] at hc C;split at hc
  ·rename_i e;rw [ae e] at C;simp only [av] at hc;subst hc;rcases C _ rfl (by simp) with ⟨q,o,U,F,h3⟩ | ⟨_,t,F⟩
   ·obtain ⟨W,Z,fr,g1,Y,X⟩:=h3;exact .inl ⟨q,o,U,F,W,Z,fr,g1,h _ Y,X⟩
   ·cases F
  ·rename_i e;rw [ab e] at C;exact C y hc Q
theorem Inv.reT {n:Nat} {ι0 ι:Inj} {w0:Base} {s:St} {wr:List (Nat×Blk)} {d:Option Nat} {nb:Nat} {v G:V} {a:Act} {w:World}
  (E:Inv n ι0 w0 ι (s.app d (some v) wr nb) a w) (h:∀x,VR ι v x->VR ι G x):Inv n ι0 w0 ι (s.app d (some G) wr nb) a w:=by
 refine ⟨E.size,E.defers,?_,E.mem,E.ext,E.new,E.fr,E.low,E.fz,E.gl⟩;have J:=E.tmps;cases d with
 | none=>exact J
 | some d=>
  intro t u F;have C:=J t;simp only [St.app,aV] at F C;split at F
  ·rename_i e;rw [ae e] at C;simp only [av] at F;subst F;obtain ⟨x,O,Q⟩:=C v rfl;exact ⟨x,O,h x Q⟩
  ·rename_i e;rw [ab e] at C;exact C u F
theorem Vh {P:Program} {t:TypeId} {g:Nat} {v m:V} {f:List (Nat×Blk)} (h:nilV P t g v=(m,f)) {n:Nat} {ι0 ι:Inj} {w0:Base} {s:St} {d:Option Nat} {nb0:Nat} {a:Act} {w:World}
  (p:Inv n ι0 w0 ι (s.app d (some v) [] nb0) a w) (k:∀b,g<=b->b<g+f.length->ι b=none) {nb:Nat} (q:nb0<=nb) (o:f=[]\/g+f.length<=nb):
  ∃c,(∀b,(b<g\/g+f.length<=b)->c b=ι b)/\Inv n ι0 w0 c (s.app d (some m) f nb) a w:=by
 have j:(v,([]:List (Nat×Blk)))=(m,f)->∃c,(∀b,(b<g\/g+f.length<=b)->c b=ι b)/\Inv n ι0 w0 c (s.app d (some m) f nb) a w:=by
  intro e;simp only [bM] at e;obtain ⟨rfl,rfl⟩:=e;exact ⟨ι,λ_ _=>rfl,p.setnb q⟩
 unfold nilV at h;split at h
 ·split at h
  ·rename_i i tr r H;simp only [bM] at h;obtain ⟨rfl,rfl⟩:=h;have E:=k g (aX _) (by simp);have o:g+1<=nb:=by simpa using o
   have:=p.phantom' E q o tr;exact ⟨upd ι g none,λb y=>by simp only [List.length_singleton] at y;simp [upd,show b≠g by omega],Inv.reT (s:=s) (wr:=[(g,.rows tr [])]) (v:=.sn) this λx hx=>SX (dN _ _ _) hx⟩
  ·exact j h
 ·rename_i l;split at h;rename_i G B C;simp only [bM] at h;obtain ⟨rfl,rfl⟩:=h;obtain ⟨F,e,u⟩:=Bf _ _ _ _ _ _ C;rw [kR] at e;subst e;obtain ⟨c,k1,k2,k3,k4⟩:=u p k nb q o;refine ⟨c,k1,Inv.reT (s:=s) (wr:=B) (v:=.ag l) k4 λx hx=>?_⟩;simp only [VR] at hx ⊢;obtain ⟨D,A,z⟩:=hx;exact ⟨D,A,k3 _ z⟩
 ·exact j h
theorem Tu (nb fr:Nat):∀g,g=0\/fr+g<=nbOf nb fr g
 | 0=>.inl rfl
 | _+1=>.inr (Nat.le_max_right _ _)
theorem yS {P:Program} {fr:Nat} {o:Oper} {e:Eff} {v:Option V} {wr:List (Nat×Blk)} {g:Nat} (h:AV P fr o e=(v,wr,g)) (c:g=0):e.new=false\/e.wr=none:=by
 unfold AV at h;split at h
 ·rename_i a;exact .inr a
 ·split at h
  ·rename_i b;exact .inl b
  ·split at h
   ·split at h;simp only [bM] at h;omega
   ·simp only [bM] at h;omega
theorem Oi {P:Program} {fr nb:Nat} {o:Oper} {e:Eff} {v:Option V} {wr:List (Nat×Blk)} {g:Nat} (h:AV P fr o e=(v,wr,g)):
  (if e.new=true/\e.wr≠none then max nb (fr+1) else nb)<=nbOf nb fr g:=by
 cases g with
 | zero=>
  have:=yS h rfl;rw [ab (λhc=>by rcases this with h | h;rw [h] at hc;cases hc.1;exact hc.2 h)];exact aX _
 | succ g=>
  simp only [nbOf];split<;>omega
theorem gR.new_eq {ι:Inj} {f:Nat} {o:Oper} {a:Act} {w:World} {e:Eff} (h:gR P ι f o a w e) {C:Nat×Blk} (E:e.wr=some C) (F:e.new=true):C.1=f:=by
 unfold gR at h;rw [E] at h;simp only [F] at h;exact h.1
theorem DG {P:Program} {fr:Nat} {o:Oper} {e:Eff} {v:Option V} {wr:List (Nat×Blk)} {g:Nat} (h:AV P fr o e=(v,wr,g)) {n:Nat} {ι0 ι:Inj} {w0:Base} {s:St} {nb0 nb:Nat} {a:Act} {w:World}
  (j:Inv n ι0 w0 ι (s.app o.dst e.val e.wr.toList nb0) a w) (r:∀b,fr<=b->b<fr+g->(b=fr->e.wr=none)->ι b=none) (G:∀m,e.wr=some m->e.new=true->m.1=fr) (y:nb0<=nb) (C:g=0\/fr+g<=nb):
  ∃f,(∀b,(b<fr\/fr+g<=b)->f b=ι b)/\Inv n ι0 w0 f (s.app o.dst v wr nb) a w:=by
 have i:(e.val,e.wr.toList)=(v,wr)->∃f,(∀b,(b<fr\/fr+g<=b)->f b=ι b)/\Inv n ι0 w0 f (s.app o.dst v wr nb) a w:=by
  intro e;simp only [bM] at e;obtain ⟨rfl,rfl⟩:=e;exact ⟨ι,λ_ _=>rfl,j.setnb y⟩
 unfold AV at h;split at h
 ·rename_i k;rw [k] at j i;split at h
  ·rename_i t u N I;split at h;rename_i M H E;simp only [bM] at h;obtain ⟨rfl,rfl,rfl⟩:=h;rw [I] at j;obtain ⟨f,k1,k2⟩:=Vh E (d:=o.dst) (s:=s) j (λb x K=>r b x K λ_=>k) y (C.imp (λh=>tj h) id);exact ⟨f,k1,k2⟩
  ·simp only [bM] at h;exact i (by simp [h.1,h.2.1])
 ·rename_i m k;rw [k] at i;split at h
  ·simp only [bM] at h;exact i (by simp [h.1,h.2.1])
  ·rename_i z;split at h
   ·rename_i t l S p;split at h;rename_i O H J;simp only [bM] at h;obtain ⟨rfl,rfl,rfl⟩:=h;obtain ⟨L,D,F⟩:=Bf _ _ _ _ _ _ J;rw [kR] at D;subst D;rw [k] at j;have x:=G m k z;obtain ⟨b,blk⟩:=m;simp only at p x;subst p x;obtain ⟨f,k1,k2,k3,k4⟩:=F j (λc R Q=>r c (by omega) (by omega) (λq=>by omega)) nb y (C.elim (λh=>by omega) λh=>.inr (by omega));refine ⟨f,λc hc=>k1 c (by omega),?_⟩;have:=Inv.reH (A:=H) (B:=s.H) (b:=b) k4 k3;simpa [St.app] using this
   ·simp only [bM] at h;exact i (by simp [h.1,h.2.1])
theorem R2 {ι:Inj} {T:List (Nat×Option V)} {a:Act} (c:TR ι T a.tmps) {g:Operand} {f:Nat} {cap:List V} (h:opd T g=some (.fn f cap)):
  ∃b:Array Value,a.eval g=fnV f b/\VRs ι cap b.toList:=by
 have:=bu c h;simpa only [VR] using this
theorem AO {wr:List (Nat×Blk)} {ι:Inj} {b:Nat} {r:Option Rf} (h:vW wr ι b=some r):∃x∈wr,x.1=b:=by
 unfold vW at h;split at h
 ·rename_i c;obtain ⟨x,hx,a⟩:=tf.1 c;exact ⟨x,hx,bB a⟩
 ·cases h
theorem DW (wr:List (Nat×Blk)) (ι:Inj):∀b r,vW wr ι b=some r->ι b=some r:=by
 intro b r h;unfold vW at h;split at h
 ·exact h
 ·cases h
theorem RL {K f:Nat} {ι:Inj} {o:Oper} {a:Act} {g:Operand} {args:Array Operand} {d:Array TypeId} {c:Array Value} {cap l:List V} (e:o.op=.call ⟨.value g,args,d⟩)
  (b:a.eval g=fnW K f c) (h:VRs ι cap c.toList) (i:VRs ι l (args.toList.map a.eval)) (w:World):
  ∃as:Array Value,VRs ι (fnAW K f l cap) as.toList/\(execOp a.eval o).run P w=(callFunc (fnFW K f) as).run P w:=by
 unfold fnAW fnFW;unfold fnW at b;cases j:Nat.blt f K<;>rw [j] at b<;>simp only at b ⊢
 ·refine ⟨c++args.map a.eval,by simpa using h.append i,?_⟩;simp only [execOp,e,resolve,b,Deferred.ofValue,Array.append_empty,ay,aF,aA,invoke]
 ·refine ⟨args.map a.eval++c,by simpa using i.append h,?_⟩;simp only [execOp,e,resolve,b,Deferred.ofValue,Array.empty_append,ay,aF,aA,invoke]
theorem C0 {n fr:Nat} {ι0 ι:Inj} {w0:Base} {s:St} {o:Oper} {a:Act} {w:World} {g:Operand} {args:Array Operand} {tys:Array TypeId} {f:Nat} {cap l:List V} {r:CR}
  (ho:o.op=.call ⟨.value g,args,tys⟩) (d:Inv n ι0 w0 ι s a w) (K:∀b,fr<=b->b<fr+r.grow->ι b=none) (hd:vv n o.dst=true)
  (hg:opd s.T g=some (.fn f cap)) (hl:opds (opd s.T) args.toList=some l) (D:r.wr.all (λx=>Nat.ble s.ro x.1)=true)
  (B:r.kill.all (λb=>Nat.ble s.rb b)=true) (hc:GoOK P (fnF f) (fnA f l cap) s.H fr r)
  {next:Act->World->Prop} {Q:Exit->Act->World->Prop}
  (Z:r.pan=false->∀i a' w',(∀b,isIn r.kill b=false->(b<fr\/fr+r.grow<=b)->i b=ι b)->Inv n ι0 w0 i ((s.kill r.kill).app o.dst (some r.val) r.wr (max s.nb (fr+r.grow))) a' w'->next a' w')
  (hp:r.pan=true->∀i x w',VR i r.val x->Inv n ι0 w0 i ((s.kill r.kill).app none none r.wr (max s.nb (fr+r.grow))) a w'->Q (.panic [{ v:=x,recovered:=false }]) a w'):
  o.wp P a w next Q:=by
 obtain ⟨cs,O,h2⟩:=R2 d.tmps hg;have h3:=xG d.tmps hl;obtain ⟨as,I,p⟩:=RL (P:=P) ho (show a.eval g=fnW 1000000 f cs from O) h2 h3 w;rcases hc with ⟨hE,hc⟩ | ⟨a1,a2,a3,a4,L⟩
 case inr=>
  obtain ⟨x,C,hx⟩:=L ι w as I;have k:(execOp a.eval o).run P w=.ok (.value x) w:=by rw [p];exact C
  unfold Oper.wp;rw [k];refine Z a1 ι _ _ (λ_ _ _=>rfl) ?_;rw [a2,a3,a4,cM];refine ⟨by rw [nG];exact d.size,by rw [jU];exact d.defers,TR.app (s:=s) d.tmps d.size hd (λu hu=>by cases hu;exact hx),?_,d.ext,d.new,d.fr,d.low,d.fz,d.gl⟩;exact ⟨d.mem.inj,λb q E=>pi (d.mem.low b q E) (FI _ _),d.mem.dom,d.mem.blk⟩
 have k:(execOp a.eval o).run P w=.ok (.enter (fnF f) as) w:=by rw [p];exact hE _ _
 unfold Oper.wp;rw [k];simp only [Oper.upon];refine (hc ι s.nb w as d.mem (d.glHere λb q j=>by
  obtain ⟨x,hx,rfl⟩:=AO j;exact ⟨DW r.wr ι x.1 _ j,aL (bW.1 D x hx)⟩) (λx hx q E=>by
  cases hc:q.fz with
  | false=>rfl
  | true=>have:=d.fz x.1 q E hc;have:=aL (bW.1 D x hx);omega) (λb S hb2=>K b S (by omega)) I).mono λe w' h=>?_
 obtain ⟨i,R,g0,g2,g6,g3,g4,g5⟩:=h;have G:∀b q,i b=some (some q)->q.fz=true->b<s.ro:=λb q j E=>d.fz b q (g6 b q j E) E;have J:∀b,isIn r.kill b=true->s.rb<=b:=by
  intro b j;obtain ⟨c,U,Y⟩:=tf.1 j;rw [bB Y];exact aL (bW.1 B c U)
 have z:∀b,isIn r.kill b=false->∀q,ι b=some q->i b=some q:=by
  intro b A q j;rw [R b A ?_];exact j;rcases aH b fr with h | h
  ·exact .inl h
  ·rcases aH b (fr+r.grow) with h' | h'
   ·have:=K b h (by omega);rw [this] at j;cases j
   ·exact .inr h'
 have m:∀b q,ι0 b=some q->i b=some q\/s.rb<=b:=by
  intro b q j;rcases d.ext b q j with h | h
  ·cases A:isIn r.kill b with
   | true=>exact .inr (J b A)
   | false=>exact .inl (z b A q h)
  ·exact .inr h
 have y:∀b q,i b=some (some q)->(∃F,ι0 b=some (some F)/\F.r=q.r)\/w0.w.heap.size<=q.r:=by
  intro b q j;cases A:isIn r.kill b with
  | true=>
   rcases g0 b q A j with ⟨F,M,h7⟩ | M
   ·rw [<-h7];exact d.new b F M
   ·exact .inr (rQ d.fr.size M)
  | false=>
   by_cases X:b<fr\/fr+r.grow<=b
   ·rw [R b A X] at j;exact d.new b q j
   ·have:=g2 b q (by omega) (by omega) j;exact .inr (rQ d.fr.size this)
 have t:Fr (roI ι0 s.ro) w0.w w':=d.fr.trans (λb q j=>by
  obtain ⟨x,hx,rfl⟩:=AO j;have O:=aL (bW.1 D x hx);exact (d.new x.1 q (DW r.wr ι x.1 _ j)).imp (λ⟨F,h,hr⟩=>⟨F,DL h O,hr⟩) id) g4
 have hT:=d.tmps.kill z;rw [St.kill_eq] at Z hp;cases e with
 | returned x=>
  obtain ⟨W,p2⟩:=g5;refine Z W i _ _ R ⟨by rw [nG];exact d.size,by rw [jU];exact d.defers,TR.app (s:={ T:=wq r.kill s.T,H:=C9 r.kill s.H,nb:=s.nb,lo:=s.lo,ro:=s.ro,rb:=s.rb }) hT d.size hd (λu hu=>by cases hu;exact p2),g3,m,y,t,d.low,G,d.gl⟩
 | panicked N=>
  obtain ⟨W,x,rfl,p2⟩:=g5;exact hp W i x _ p2 ⟨d.size,d.defers,hT,g3,m,y,t,d.low,G,d.gl⟩
 | outgrown=>exact g5.elim
theorem IX {α:Type} {E:List Ent} (hE:∀x∈E,fM P x) {n fr:Nat} {ι0 ι:Inj} {w0:Base} {s:St} {o:Oper} {a:Act} {w:World} (H:Inv n ι0 w0 ι s a w)
  (D:∀b,fr<=b->b<fr+8->ι b=none) {k:St->List Nat->List (Nat×Blk)->Nat->Option α} {kp:V->St->Option α} {z:α} (h:Fj P E n fr o s k kp=some z)
  {next:Act->World->Prop} {Q:Exit->Act->World->Prop}
  (hn:∀s' rd wr g c m w',k s' rd wr g=some z->(∀b,(b<fr\/fr+g<=b)->c b=ι b)->Inv n ι0 w0 c s' m w'->next m w')
  (hp:∀v s' c x m w',kp v s'=some z->VR c v x->Inv n ι0 w0 c s' m w'->Q (.panic [{ v:=x,recovered:=false }]) m w'):
  o.wp P a w next Q:=by
 have T:ι fr=none:=D fr (aX _) (by omega);unfold Fj at h;split at h
 ·cases h
 rename_i hd;have M:vz P fr o s k=some z->o.wp P a w next Q:=by
  intro h;unfold vz at h;obtain ⟨e,R,L⟩:=Og H.tmps H.mem T h;split at R;rename_i v wr g C;split at R
  case h_2=>cases R
  rename_i K;simp only [az] at K;have Z:=aL K.2;have F:∀N,e.wr=some N->e.new=true->N.1=fr:=λN W A=>gR.new_eq L W A;refine Ie H T hd L (λA N W=>by
   have:=K.1;unfold roOK at this;rw [W] at this;simp only [A] at this;exact aL this) λc m w' u g2 d=>?_
  obtain ⟨U,k1,k2⟩:=DG C d (λb Y e2 e3=>by
   by_cases i:b=fr
   ·subst i;rw [g2 (.inr (e3 rfl))];exact T
   ·rw [u b i];exact D b Y (by omega)) F (nb:=nbOf s.nb fr g) (Oi C) (Tu s.nb fr g)
  refine hn _ _ _ _ U m w' R (λb X=>?_) k2;rw [k1 b X];by_cases i:b=fr
  ·subst i;refine g2 (yS C (by omega))
  ·exact u b i
 split at h
 ·rename_i cl G;split at h
  ·rename_i g q;split at h
   ·rename_i f cap hg;obtain ⟨l,hl,h⟩:=ax h;obtain ⟨r,I,h3⟩:=wW hE h;split at I
    ·cases I
    rename_i p;simp only [az] at p;have B:r.kill=[]:=by simpa using p.2.2
    have Z:=aL p.1;obtain ⟨O,args,tys⟩:=cl;simp only at q;subst q;refine C0 G H (λb Y e2=>D b Y (by omega)) hd hg hl p.2.1 (by rw [B];rfl) (h3 _ λ_ _=>rfl) (λj c m w' u d=>?_) (λj c x w' u d=>?_)
    ·rw [j] at I;rw [B] at u d;exact hn _ _ _ _ c m w' I (λb K=>u b rfl K) d
    ·rw [j] at I;rw [B] at d;exact hp _ _ c x a w' I u d
   ·cases h
  ·exact M h
 ·rename_i x G;split at h
  ·rename_i t v hx;have S:=bu H.tmps hx;have hv':=S;simp only [VR] at S;obtain ⟨y,h6,_⟩:=S;unfold Oper.wp;have J:(execOp a.eval o).run P w=.halt (.panic (.iface t y)) w:=by
    simp only [execOp,G,h6,Instr.panic,ay,run_goPanic,Result.andThen_halt]
   rw [J];exact hp _ _ ι _ a w h (h6▸hv') H
  ·cases h
 ·exact M h
theorem TR.again {ι:Inj} {T:List (Nat×Option V)} {E:Array Value} (F:TR ι T E) {d:Nat} {v:V} (G:look T d=some (some v)):TR ι ((d,some v)::T) E:=by
 intro t u C;rw [aV] at C;split at C
 ·rename_i e;subst e;simp only [av] at C;subst C;exact F d v G
 ·exact F t u C
theorem Inv.again {n:Nat} {ι0 ι:Inj} {w0:Base} {s:St} {a:Act} {w:World} (h:Inv n ι0 w0 ι s a w) {d:Nat} {v:V} (C:look s.T d=some (some v)):
  Inv n ι0 w0 ι { s with T:=(d,some v)::s.T } a w:=
 ⟨h.size,h.defers,h.tmps.again C,h.mem,h.ext,h.new,h.fr,h.low,h.fz,h.gl⟩
theorem sS {ops:List Oper} {j d:Nat} (h:gtmp ops j=some d) (a:Array Value):
  yielded ops.toArray a j=match a[d]? with | some (.bool b)=>some b | _=>none:=by
 unfold gtmp at h;split at h
 ·rename_i o c;have:(ops.toArray[j]?).bind (·.dst)=some d:=by simp [c,h]
  unfold yielded;rw [this];rfl
 ·cases h
theorem MG {α:Type} {n:Nat} {ι0 ι:Inj} {w0:Base} {ops:List Oper} {o:Oper} {s:St} {a:Act} {w:World} (f:Inv n ι0 w0 ι s a w) {k:Bool->St->Option α} {z:α}
  (h:xd ops o s k=some z):∃c s',k c s'=some z/\Inv n ι0 w0 ι s' a w/\Region.wanted o (yielded ops.toArray a.tmps)=c/\(∀t,look s'.T t=look s.T t)/\s'.H=s.H/\s'.nb=s.nb:=by
 unfold xd at h;split at h
 ·rename_i g;exact ⟨true,s,h,f,by simp [Region.wanted,g],λ_=>rfl,rfl,rfl⟩
 ·rename_i j c g;split at h
  case h_2=>cases h
  rename_i d m;have hy:=sS m a.tmps;have again:∀x,look s.T d=some (some (.b x))->∀t,look ((d,some (V.b x))::s.T) t=look s.T t:=by
   intro x hx t;rw [aV];split
   ·rename_i e;subst e;exact hx.symm
   ·rfl
  split at h
  ·rename_i x hx;obtain ⟨y,l,i⟩:=f.tmps d _ hx;simp only [VR] at i;subst i;rw [l] at hy;cases x
   ·exact ⟨!c,_,h,f.again hx,by cases c<;>simp [Region.wanted,g,hy],again _ hx,rfl,rfl⟩
   ·exact ⟨c,_,h,f.again hx,by cases c<;>simp [Region.wanted,g,hy],again _ hx,rfl,rfl⟩
  ·rename_i hx;obtain ⟨y,l,i⟩:=f.tmps d _ hx;simp only [VR] at i;obtain ⟨p,rfl,_⟩:=i;rw [l] at hy;exact ⟨false,s,h,f,by simp [Region.wanted,g,hy],λ_=>rfl,rfl,rfl⟩
  ·cases h
theorem QC (ι:Inj):VR ι (.tp []) undef:=by
 simp only [VR];exact ⟨#[],rfl,by simp [VRs]⟩
theorem Inv.skip {n:Nat} {ι0 ι:Inj} {w0:Base} {s:St} {a:Act} {w:World} (h:Inv n ι0 w0 ι s a w) {d:Option Nat} (C:vv n d=true):
  Inv n ι0 w0 ι (s.app d (some (.tp [])) [] s.nb) (a.put d undef) w:=
 ⟨by rw [nG];exact h.size,by rw [jU];exact h.defers,h.tmps.app h.size C (λu E=>by cases E;exact QC ι),h.mem,h.ext,h.new,h.fr,h.low,h.fz,h.gl⟩
theorem Inv.fresh {n:Nat} {ι0 ι:Inj} {w0:Base} {s:St} {a:Act} {w:World} (h:Inv n ι0 w0 ι s a w):∀b,s.nb<=b->ι b=none:=by
 intro b C;cases hi:ι b with
 | none=>rfl
 | some r=>have:=h.mem.low b r hi;omega
end Go.Abs
