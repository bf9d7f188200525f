
/- The interpreter is sound: what it comes to is what the model's code comes to.
   Conditions: none; generic over the program. -/
import Derived.Test.YthemneooekobkabGreatDoorAbsI
set_option linter.unusedSimpArgs false
set_option linter.unusedVariables false
namespace Go.Abs
variable {P:Program}
def kV (P:Program) (f:Nat):Prop:=∀(args:Array Value) (w:World),(callFunc f args).run P w=.ok (.enter f args) w
def RetR (ι:Inj) (r:CR):Ending->Prop
 | .returned x=>r.pan=false/\VR ι r.val x
 | .panicked a=>r.pan=true/\∃x,a=[{ v:=x,recovered:=false }]/\VR ι r.val x
 | .outgrown=>False
def vu (wr:List (Nat×Blk)) (ι:Inj):Inj:=λb=>if wr.any (λx=>Nat.beq x.1 b) then ι b else none
def Hw (P:Program) (f:Nat) (args:List V) (H:List (Nat×Blk)) (fr:Nat) (r:CR):Prop:=
 ∀(ι:Inj) (nb:Nat) (w:World) (d:Array Value),WR ι H nb w->GL (vu r.wr ι) w->(∀x∈r.wr,∀q,ι x.1=some (some q)->q.fz=false)->(∀b,fr<=b->b<fr+r.grow->ι b=none)->VRs ι args d.toList->
  Calls P f d w λe w'=>∃a:Inj,(∀b,isIn r.kill b=false->(b<fr\/fr+r.grow<=b)->a b=ι b)/\
   (∀b q,isIn r.kill b=true->a b=some (some q)->(∃c,ι b=some (some c)/\c.r=q.r)\/w.heap.size<=q.r)/\(∀b q,fr<=b->b<fr+r.grow->a b=some (some q)->w.heap.size<=q.r)/\(∀b q,a b=some (some q)->q.fz=true->ι b=some (some q))/\
   WR a (r.wr++AX r.kill H) (max nb (fr+r.grow)) w'/\Fr (vu r.wr ι) w w'/\RetR a r e
mutual
theorem VR.kill {ι F:Inj} {K:List Nat} (h:∀b,isIn K b=false->∀q,ι b=some q->F b=some q):∀(v:V) (x:Value),VR ι v x->VR F (V.kill K v) x
 | .b _,_,hx | .i _ _,_,hx | .s _,_,hx | .pn,_,hx | .sn,_,hx | .nf,_,hx | .ni,_,hx | .ai _ _ _,_,hx | .unk,_,hx=>by simpa only [V.kill,VR] using hx
 | .p c o,x,hx=>by
  simp only [VR] at hx;obtain ⟨q,C,rfl⟩:=hx;simp only [V.kill];cases hc:isIn K c with
  | true=>simp [VR,Value.cells,Value.oneCell']
  | false=>simp only [af,VR];exact ⟨q,h c hc _ C,rfl⟩
 | .mp c,x,hx=>by
  simp only [VR] at hx;obtain ⟨q,C,rfl⟩:=hx;simp only [V.kill];cases hc:isIn K c with
  | true=>simp [VR,Value.cells,Value.oneCell']
  | false=>simp only [af,VR];exact ⟨q,h c hc _ C,rfl⟩
 | .pr z c j o,x,hx=>by
  simp only [VR] at hx;obtain ⟨q,C,rfl⟩:=hx;simp only [V.kill];cases hc:isIn K c with
  | true=>simp [VR,Value.cells,Value.oneCell']
  | false=>simp only [af,VR];exact ⟨q,h c hc _ C,rfl⟩
 | .sl c o n m,x,hx=>by
  simp only [VR] at hx;obtain ⟨q,cp,C,E,O,rfl⟩:=hx;simp only [V.kill];cases hc:isIn K c with
  | true=>simp [VR,Value.cells,Value.oneCell']
  | false=>simp only [af,VR];exact ⟨q,cp,h c hc _ C,E,O,rfl⟩
 | .ws c,x,hx=>by
  simp only [VR] at hx;simp only [V.kill];cases hc:isIn K c with
  | true=>rcases hx with ⟨q,C,rfl⟩ | ⟨C,J,rfl⟩<;>simp [VR,Value.cells,Value.oneCell']
  | false=>
   simp only [af,VR];rcases hx with ⟨q,C,rfl⟩ | ⟨C,J,rfl⟩
   ·exact .inl ⟨q,h c hc _ C,rfl⟩
   ·exact .inr ⟨h c hc _ C,J,rfl⟩
 | .rs z c j n _,x,hx=>by
  simp only [VR] at hx;simp only [V.kill];cases hc:isIn K c with
  | true=>rcases hx with ⟨q,cp,o,C,E,O,rfl⟩ | ⟨C,E,J,rfl⟩<;>simp [VR,Value.cells,Value.oneCell']
  | false=>
   simp only [af,VR];rcases hx with ⟨q,cp,o,C,E,O,rfl⟩ | ⟨C,E,J,rfl⟩
   ·exact .inl ⟨q,cp,o,h c hc _ C,E,O,rfl⟩
   ·exact .inr ⟨h c hc _ C,E,J,rfl⟩
 | .fn f cap,x,hx=>by
  simp only [V.kill,VR] at hx ⊢;obtain ⟨G,C,E⟩:=hx;exact ⟨G,C,VRs.kill h _ _ E⟩
 | .it t v,x,hx=>by
  simp only [V.kill,VR] at hx ⊢;obtain ⟨y,C,E⟩:=hx;exact ⟨y,C,VR.kill h _ _ E⟩
 | .ag l,x,hx=>by
  simp only [V.kill,VR] at hx ⊢;obtain ⟨G,C,E⟩:=hx;exact ⟨G,C,VRs.kill h _ _ E⟩
 | .tp l,x,hx=>by
  simp only [V.kill,VR] at hx ⊢;obtain ⟨G,C,E⟩:=hx;exact ⟨G,C,VRs.kill h _ _ E⟩
theorem VRs.kill {ι C:Inj} {K:List Nat} (h:∀b,isIn K b=false->∀q,ι b=some q->C b=some q):∀(l:List V) (E:List Value),VRs ι l E->VRs C (V.kills K l) E
 | [],_,hx=>by simpa [V.kills,VRs] using hx
 | v::l,E,hx=>by
  simp only [V.kills,VRs] at hx ⊢;obtain ⟨y,F,O,G,J⟩:=hx;exact ⟨y,F,O,VR.kill h _ _ G,VRs.kill h _ _ J⟩
end
theorem BR.kill {ι E:Inj} {K:List Nat} (h:∀b,isIn K b=false->∀q,ι b=some q->E b=some q) {q:Rf}:∀{blk:Blk} {o:Obj},BR ι q blk o->BR E q (blk.kill K) o
 | .dead,_,_=>trivial
 | .rows t l,o,C=>C
 | .cells l,o,C=>by
  obtain ⟨F,e,fr,O,G,J⟩:=C;exact ⟨F,e,fr,O,VRs.kill h _ _ G,J⟩
 | .ints k n l,o,C=>C
 | .iter s pos,o,C=>C
 | .mp k l,o,C=>C
theorem vh (K:List Nat):∀(T:List (Nat×Option V)) (t:Nat),look (vO K T) t=(look T t).map (Option.map (V.kill K))
 | [],t=>rfl
 | (u,none)::T,t=>by
  simp only [vO,aS,vh K T];split<;>rfl
 | (u,some v)::T,t=>by
  simp only [vO,aS,vh K T];split<;>rfl
theorem vk (K:List Nat):∀(H:List (Nat×Blk)) (b:Nat),look (AX K H) b=(look H b).map (Blk.kill K)
 | [],t=>rfl
 | (u,v)::T,t=>by
  simp only [AX,aS,vk K T];split<;>rfl
theorem TR.kill {ι C:Inj} {K:List Nat} (h:∀b,isIn K b=false->∀q,ι b=some q->C b=some q) {T:List (Nat×Option V)} {G:Array Value} (J:TR ι T G):TR C (vO K T) G:=by
 intro t v E;rw [vh] at E;cases F:look T t with
 | none=>simp [F] at E
 | some o=>
  cases o with
  | none=>simp [F] at E
  | some u=>
   simp only [F,fc,au] at E;subst E;obtain ⟨x,Q,O⟩:=J t u F;exact ⟨x,Q,VR.kill h _ _ O⟩
mutual
theorem V.kill_nil:∀v:V,V.kill [] v=v
 | .b _ | .i _ _ | .s _ | .pn | .sn | .nf | .ni | .ai _ _ _ | .unk | .p _ _ | .pr _ _ _ _ | .sl _ _ _ _ | .ws _ | .rs _ _ _ _ _ | .mp _=>rfl
 | .fn f l | .ag l | .tp l=>by simp only [V.kill,V.kills_nil l]
 | .it t v=>by simp only [V.kill,V.kill_nil v]
theorem V.kills_nil:∀l:List V,V.kills [] l=l
 | []=>rfl
 | v::l=>by simp only [V.kills,V.kill_nil v,V.kills_nil l]
end
theorem ul:∀H:List (Nat×Blk),AX [] H=H
 | []=>rfl
 | (b,x)::H=>by
  simp only [AX,ul H];cases x<;>simp only [Blk.kill,V.kills_nil]
theorem wW:∀T:List (Nat×Option V),vO [] T=T
 | []=>rfl
 | (b,none)::T=>by simp only [vO,wW T]
 | (b,some x)::T=>by simp only [vO,wW T,V.kill_nil]
theorem St.kill_eq (K:List Nat) (s:St):s.kill K={ T:=vO K s.T,H:=AX K s.H,nb:=s.nb,lo:=s.lo,ro:=s.ro,rb:=s.rb }:=by
 cases K with
 | nil=>simp only [St.kill,wW,ul]
 | cons b K=>rfl
def XX (P:Program) (f:Nat) (args:List V) (r:CR):Prop:=
 r.pan=false/\r.wr=[]/\r.grow=0/\r.kill=[]/\∀(ι:Inj) (w:World) (a:Array Value),VRs ι args a.toList->∃x,(callFunc f a).run P w=.ok (.value x) w/\VR ι r.val x
def GoOK (P:Program) (f:Nat) (args:List V) (H:List (Nat×Blk)) (fr:Nat) (r:CR):Prop:=(kV P f/\Hw P f args H fr r)\/XX P f args r
def fH (P:Program) (x:Ent):Prop:=
 ∀(α:Type) (args:List V) (H:List (Nat×Blk)) (fr:Nat) (k:CR->Option α) (z:α),x.e α args H fr k=some z->
  ∃r,k r=some z/\∀a,(∀b∈r.rd,look a b=look H b)->GoOK P x.f args a fr r
theorem wl {α:Type} {f:Nat} {args:List V} {H:List (Nat×Blk)} {fr:Nat} {k:CR->Option α} {z:α}:∀{E:List Ent},(∀x∈E,fH P x)->IT α f args H fr k E=some z->
  ∃r,k r=some z/\∀d,(∀b∈r.rd,look d b=look H b)->GoOK P f args d fr r
 | [],_,h=>by simp [IT] at h
 | x::E,c,h=>by
  simp only [IT] at h;cases a:Nat.beq x.f f with
  | true=>
   rw [a] at h;have e:=bK a;subst e;exact c x (by simp) α args H fr k z h
  | false=>
   rw [a] at h;exact wl (λy hy=>c y (fN _ hy)) h
def ExR (ι:Inj):Ex->Exit->Prop
 | .normal,e=>e=.normal
 | .exit id,e=>e=.exit id
 | .ret,e=>e=.ret
 | .pan v,e=>∃x,e=.panic [{ v:=x,recovered:=false }]/\VR ι v x
def Post (n:Nat) (ι0:Inj) (w0:Base) (b:Ex->St->Prop):Exit->Act->World->Prop:=
 λe a w=>∃ex s ι,ExR ι ex e/\Inv n ι0 w0 ι s a w/\b ex s
def SemC (P:Program) (n:Nat) (c:Code) (s:St) (b:Ex->St->Prop):Prop:=
 ∀(ι0:Inj) (w0:Base) (ι:Inj) (a:Act) (w:World),Inv n ι0 w0 ι s a w->c.wp P (Post n ι0 w0 b) a w
def jV (P:Program) (n:Nat) (L:List Sub):AC->Prop
 | .seq a b | .cond _ a b=>jV P n L a/\jV P n L b
 | .block _ a | .scope a | .loop a=>jV P n L a
 | .sub m c=>∀(α:Type) (s:St) (k:Ex->St->Option α) (z:α),Js α m s k L=some z->SemC P n c.code s λex s'=>k ex s'=some z
 | _=>True
theorem Fr.trans {ι0 J:Inj} {w0 w w':World} (h:Fr ι0 w0 w) (U:∀b q,J b=some (some q)->(∃G,ι0 b=some (some G)/\G.r=q.r)\/w0.heap.size<=q.r) (F:Fr J w w'):Fr ι0 w0 w':=by
 refine ⟨F.os.trans h.os,F.tape.trans h.tape,F.output.trans h.output,rq h.size F.size,λk E C=>?_⟩;rw [F.blk k (qO E h.size) ?_,h.blk k E C];intro b q Q;rcases U b q Q with ⟨G,O,W⟩ | O
 ·rw [<-W];exact C b G O
 ·omega
theorem nG (a:Act) (d:Option Nat) (v:Value):(a.put d v).tmps.size=a.tmps.size:=by
 cases d<;>simp [Act.put]
theorem jG (a:Act) (d:Option Nat) (v:Value):(a.put d v).defers=a.defers:=by
 cases d<;>rfl
theorem TR.app {ι:Inj} {s:St} {a:Act} {n:Nat} {d:Option Nat} {v:Option V} {x:Value} {wr:List (Nat×Blk)} {nb:Nat} (C:TR ι s.T a.tmps) (hs:a.tmps.size=n) (F:vn n d=true)
  (E:∀u,v=some u->VR ι u x):TR ι (s.app d v wr nb).T (a.put d x).tmps:=by
 cases d with
 | none=>exact C
 | some d=>exact C.put (by rw [hs];exact aI F) E
theorem Inv.drawn {n:Nat} {ι0 ι:Inj} {w0:Base} {s:St} {a:Act} {w:World} (h:Inv n ι0 w0 ι s a w) (m:Nat):Inv n ι0 w0 ι s a { w with drawn:=m }:=
 ⟨h.size,h.defers,h.tmps,h.mem.draws m,h.ext,h.new,h.fr.draws m,h.low,h.fz,h.gl⟩
theorem Ia {n fr:Nat} {ι0 ι:Inj} {w0:Base} {s:St} {o:Oper} {a:Act} {w:World} {e:Eff} (f:Inv n ι0 w0 ι s a w) (K:ι fr=none) (D:vn n o.dst=true)
  (h:gO P ι fr o a w e) (t:e.new=false->∀J,e.wr=some J->s.ro<=J.1) {next:Act->World->Prop} {Q:Exit->Act->World->Prop}
  (F:∀g I w',(∀b,b≠fr->g b=ι b)->(e.new=false\/e.wr=none->g fr=ι fr)->
   Inv n ι0 w0 g (s.app o.dst e.val e.wr.toList (if e.new=true/\e.wr≠none then max s.nb (fr+1) else s.nb)) I w'->next I w'):
  o.wp P a w next Q:=by
 have k:∀{x:Next} {w':World} {g:Inj},(execOp a.eval o).run P w=.ok x w'->NextR g e.val x->(∀y,(∀u,e.val=some u->VR g u y)->next (a.put o.dst y) w')->o.wp P a w next Q:=by
  intro x w' g E hx hy;unfold Oper.wp;rw [E];cases hx with
  | skip C=>exact hy _ (λu H=>by rw [C] at H;cases H)
  | value x C=>exact hy _ C
 unfold gO at h;split at h
 ·rename_i l;obtain ⟨x,v,z⟩:=h;refine k v z λy hy=>F ι _ _ (λ_ _=>rfl) (λ_=>rfl) ?_;rw [l];simp only [ne_eq,vg,and_false,aB];exact ⟨by rw [nG];exact f.size,by rw [jG];exact f.defers,f.tmps.app f.size D hy,f.mem,f.ext,f.new,f.fr,f.low,f.fz,f.gl⟩
 ·rename_i b blk l;split at h
  ·rename_i i;obtain ⟨r,v,N⟩:=h;have m:r.fz=false:=by
    cases hc:r.fz with
    | false=>rfl
    | true=>have:=f.fz b r v hc;have:=t i _ l;simp only at this;omega
   obtain ⟨ob,x,z,A,G⟩:=N m;refine k z G λy hy=>F ι _ _ (λ_ _=>rfl) (λ_=>rfl) ?_;rw [l,i];simp only [br,yg,aB];refine ⟨by rw [nG];exact f.size,by rw [jG];exact f.defers,f.tmps.app f.size D hy,f.mem.write v m A,f.ext,f.new,?_,f.low,f.fz,f.gl⟩;exact f.fr.write ((f.new b r v).imp (λ⟨M,h,E⟩=>⟨b,M,CJ h (t i _ l),E⟩) id) _
  ·rename_i i;obtain ⟨rfl,d,q,ob,x,z,L,B,A,G⟩:=h;have j:=pS (r:=some q) K;refine k z G λy hy=>F (upd ι b (some q)) _ _ (λc hc=>by simp [upd,hc]) (λhc=>by rw [i,l] at hc;simp at hc) ?_;rw [l,i];simp only [ne_eq,reduceCtorEq,Fp,and_self,aJ]
   refine ⟨by rw [nG];exact f.size,by rw [jG];exact f.defers,(f.tmps.mono j).app f.size D hy,(f.mem.draws d).alloc K (by simp only [St.app];omega) (by simp only [St.app];omega) L A,λc q hc=>(f.ext c q hc).imp (j _ _) id,λc q hc=>?_,(f.fr.draws d).alloc ob,f.low,λc p hc hp=>by
    unfold upd at hc;split at hc
    ·simp only [au] at hc;subst hc;rw [B] at hp;cases hp
    ·exact f.fz c p hc hp,f.gl⟩
   unfold upd at hc;split at hc
   ·simp only [au] at hc;subst hc;exact .inr (by rw [L];exact f.fr.size)
   ·exact f.new c q hc
theorem Inv.phantom' {n:Nat} {ι0 ι:Inj} {w0:Base} {s:St} {a:Act} {w:World} (E:Inv n ι0 w0 ι s a w) {g:Nat} (Y:ι g=none) {nb:Nat} (Q:s.nb<=nb) (hg:g<nb) (tr:List Lf):
  Inv n ι0 w0 (upd ι g none) { T:=s.T,H:=(g,.rows tr [])::s.H,nb:=nb,lo:=s.lo,ro:=s.ro,rb:=s.rb } a w:=by
 have F:=pS (r:=none) Y;have G:∀b,b≠g->upd ι g none b=ι b:=λb J=>by simp [upd,J]
 have C:∀b q,upd ι g none b=some (some q)->ι b=some (some q):=by
  intro b q h;by_cases J:b=g
  ·subst J;rw [dH] at h;cases h
  ·rwa [G b J] at h
 refine ⟨E.size,E.defers,E.tmps.mono F,⟨λb b' q Z X W=>E.mem.inj b b' q Z (C _ _ X) (C _ _ W),λb q e=>?_,λb q e=>E.mem.dom b q (C _ _ e),λb y O hd=>?_⟩,
  λb q e=>(E.ext b q e).imp (F _ _) id,λb q e=>E.new b q (C _ _ e),E.fr,E.low,λb q e=>E.fz b q (C _ _ e),E.gl⟩
 ·by_cases J:b=g
  ·subst J;exact hg
  ·rw [G b J] at e;exact qO (E.mem.low b q e) Q
 ·rw [aS] at O;split at O
  ·rename_i e;subst e;simp only [au] at O;subst O;exact .inr ⟨dH _ _ _,tr,rfl⟩
  ·rename_i U;exact (E.mem.blk b y O hd).map (G b (λe=>U e.symm)) (λ_ _=>rfl) (λ_ _ h=>BR.mono F h) (λ_ h=>h)
theorem Inv.setnb {n:Nat} {ι0 ι:Inj} {w0:Base} {s:St} {a:Act} {w:World} (C:Inv n ι0 w0 ι s a w) {nb:Nat} (h:s.nb<=nb):
  Inv n ι0 w0 ι { T:=s.T,H:=s.H,nb:=nb,lo:=s.lo,ro:=s.ro,rb:=s.rb } a w:=
 ⟨C.size,C.defers,C.tmps,⟨C.mem.inj,λb q e=>qO (C.mem.low b q e) h,C.mem.dom,C.mem.blk⟩,C.ext,C.new,C.fr,C.low,C.fz,C.gl⟩
theorem Rk {ι:Inj} {g:Nat} (a:ι g=some none) {x:Value} (h:VR ι .sn x):VR ι (.ws g) x:=by
 simp only [VR] at h ⊢;exact .inr ⟨a,none,h⟩
theorem AY:∀(ns:List (Nat×List Lf)) (g:Nat) (l:List V) (d:List (Nat×Blk)) (t:List V) (H:List (Nat×Blk)),nilL g ns l d=(t,H)->∃o,H=o++d/\
  ∀{n:Nat} {ι0 ι:Inj} {w0:Base} {s:St} {a:Act} {w:World},Inv n ι0 w0 ι s a w->(∀b,g<=b->b<g+o.length->ι b=none)->∀nb,s.nb<=nb->(o=[]\/g+o.length<=nb)->
   ∃c,(∀b,(b<g\/g+o.length<=b)->c b=ι b)/\(∀b q,ι b=some q->c b=some q)/\(∀m,VRs c l m->VRs c t m)/\
    Inv n ι0 w0 c { T:=s.T,H:=o++s.H,nb:=nb,lo:=s.lo,ro:=s.ro,rb:=s.rb } a w
 | [],g,l,d,t,H,h=>by
  simp only [nilL,aY] at h;obtain ⟨rfl,rfl⟩:=h;exact ⟨[],rfl,λ{n ι0 ι w0 s a w} z f nb A v=>⟨ι,λ_ _=>rfl,λ_ _ h=>h,λ_ h=>h,z.setnb A⟩⟩
 | (i,tr)::r,g,l,d,t,H,h=>by
  simp only [nilL] at h;split at h
  ·rename_i hi;obtain ⟨y,rfl,G⟩:=AY r (g+1) _ _ _ _ h;refine ⟨y++[(g,.rows tr [])],by simp,λ{n ι0 ι w0 s a w} z f nb A v=>?_⟩;have u:(y++[((g,.rows tr []):Nat×Blk)]).length=y.length+1:=by simp
   rw [u] at f v ⊢;have v:g+(y.length+1)<=nb:=v.resolve_left (by simp);have C:=f g (aW _) (by omega);have p:=pS (r:=none) C
   obtain ⟨c,k1,k2,F,k4⟩:=G (z.phantom' C A (by omega) tr) (λb J I=>by
    have:upd ι g none b=ι b:=by simp [upd,show b≠g by omega]
    rw [this];exact f b (by omega) (by omega)) nb (aW _) (.inr (by omega))
   refine ⟨c,λb D=>?_,λb q D=>k2 b q (p b q D),λm hx=>F m ?_,by simpa using k4⟩
   ·rw [k1 b (by omega)];simp [upd,show b≠g by omega]
   ·obtain ⟨x,k,B⟩:=hx.get hi;have:=hx.set i (Rk (g:=g) (k2 _ _ (dH _ _ _)) B);rwa [show m.set i x=m from by
     apply Ee;intro j;rw [List.getElem?_set];split
     ·rename_i e;subst e;split
      ·exact k.symm
      ·rename_i E;rw [ii (by omega)] at k;cases k
     ·rfl] at this
  ·exact AY r g l d t H h
theorem S5 {α:Type} (l m:List (Nat×α)) (n:Nat):look (l++m) n=(look l n).or (look m n):=by
 induction l with
 | nil=>rfl
 | cons x l ih=>
  obtain ⟨k,v⟩:=x;rw [eU,aS,aS,ih];split<;>rfl
theorem Inv.reH {n:Nat} {ι0 ι:Inj} {w0:Base} {T:List (Nat×Option V)} {A B:List (Nat×Blk)} {b nb lo ro rb:Nat} {l J:List V} {a:Act} {w:World}
  (E:Inv n ι0 w0 ι ⟨T,A++(b,.cells l)::B,nb,lo,ro,rb⟩ a w) (h:∀Q,VRs ι l Q->VRs ι J Q):Inv n ι0 w0 ι ⟨T,A++(b,.cells J)::B,nb,lo,ro,rb⟩ a w:=by
 refine ⟨E.size,E.defers,E.tmps,⟨E.mem.inj,E.mem.low,E.mem.dom,λc y hc O=>?_⟩,E.ext,E.new,E.fr,E.low,E.fz,E.gl⟩;have C:=E.mem.blk c;rw [S5,aS] at hc C;cases G:look A c with
 | some z=>rw [G] at hc C;exact C y hc O
 | none=>
  rw [G] at hc C;simp only [EN] at hc C;split at hc
  ·rename_i e;rw [ae e] at C;simp only [au] at hc;subst hc;rcases C _ rfl (by simp) with ⟨q,o,Z,F,Y⟩ | ⟨_,t,F⟩
   ·obtain ⟨U,X,fr,g1,g2,W⟩:=Y;exact .inl ⟨q,o,Z,F,U,X,fr,g1,h _ g2,W⟩
   ·cases F
  ·rename_i e;rw [ab e] at C;exact C y hc O
theorem Inv.reT {n:Nat} {ι0 ι:Inj} {w0:Base} {s:St} {wr:List (Nat×Blk)} {d:Option Nat} {nb:Nat} {v J:V} {a:Act} {w:World}
  (E:Inv n ι0 w0 ι (s.app d (some v) wr nb) a w) (h:∀x,VR ι v x->VR ι J x):Inv n ι0 w0 ι (s.app d (some J) wr nb) a w:=by
 refine ⟨E.size,E.defers,?_,E.mem,E.ext,E.new,E.fr,E.low,E.fz,E.gl⟩;have G:=E.tmps;cases d with
 | none=>exact G
 | some d=>
  intro t u F;have C:=G t;simp only [St.app,aS] at F C;split at F
  ·rename_i e;rw [ae e] at C;simp only [au] at F;subst F;obtain ⟨x,Q,O⟩:=C v rfl;exact ⟨x,Q,h x O⟩
  ·rename_i e;rw [ab e] at C;exact C u F
theorem SQ {P:Program} {t:TypeId} {g:Nat} {v m:V} {f:List (Nat×Blk)} (h:nilV P t g v=(m,f)) {n:Nat} {ι0 ι:Inj} {w0:Base} {s:St} {d:Option Nat} {nb0:Nat} {a:Act} {w:World}
  (p:Inv n ι0 w0 ι (s.app d (some v) [] nb0) a w) (k:∀b,g<=b->b<g+f.length->ι b=none) {nb:Nat} (q:nb0<=nb) (o:f=[]\/g+f.length<=nb):
  ∃c,(∀b,(b<g\/g+f.length<=b)->c b=ι b)/\Inv n ι0 w0 c (s.app d (some m) f nb) a w:=by
 have j:(v,([]:List (Nat×Blk)))=(m,f)->∃c,(∀b,(b<g\/g+f.length<=b)->c b=ι b)/\Inv n ι0 w0 c (s.app d (some m) f nb) a w:=by
  intro e;simp only [aY] at e;obtain ⟨rfl,rfl⟩:=e;exact ⟨ι,λ_ _=>rfl,p.setnb q⟩
 unfold nilV at h;split at h
 ·split at h
  ·rename_i i tr r I;simp only [aY] at h;obtain ⟨rfl,rfl⟩:=h;have z:=k g (aW _) (by simp);have o:g+1<=nb:=by simpa using o
   have:=p.phantom' z q o tr;exact ⟨upd ι g none,λb A=>by simp only [Br] at A;simp [upd,show b≠g by omega],Inv.reT (s:=s) (wr:=[(g,.rows tr [])]) (v:=.sn) this λx hx=>Rk (dH _ _ _) hx⟩
  ·exact j h
 ·rename_i l;split at h;rename_i G B y;simp only [aY] at h;obtain ⟨rfl,rfl⟩:=h;obtain ⟨H,e,E⟩:=AY _ _ _ _ _ _ y;rw [lw] at e;subst e;obtain ⟨c,k1,k2,C,k4⟩:=E p k nb q o;refine ⟨c,k1,Inv.reT (s:=s) (wr:=B) (v:=.ag l) k4 λx hx=>?_⟩;simp only [VR] at hx ⊢;obtain ⟨D,u,F⟩:=hx;exact ⟨D,u,C _ F⟩
 ·exact j h
theorem Tv (nb fr:Nat):∀g,g=0\/fr+g<=nbOf nb fr g
 | 0=>.inl rfl
 | _+1=>.inr (Nat.le_max_right _ _)
theorem yy {P:Program} {fr:Nat} {o:Oper} {e:Eff} {v:Option V} {wr:List (Nat×Blk)} {g:Nat} (h:zZ P fr o e=(v,wr,g)) (c:g=0):e.new=false\/e.wr=none:=by
 unfold zZ at h;split at h
 ·rename_i a;exact .inr a
 ·split at h
  ·rename_i b;exact .inl b
  ·split at h
   ·split at h;simp only [aY] at h;omega
   ·simp only [aY] at h;omega
theorem Lc {P:Program} {fr nb:Nat} {o:Oper} {e:Eff} {v:Option V} {wr:List (Nat×Blk)} {g:Nat} (h:zZ P fr o e=(v,wr,g)):
  (if e.new=true/\e.wr≠none then max nb (fr+1) else nb)<=nbOf nb fr g:=by
 cases g with
 | zero=>
  have:=yy h rfl;rw [ab (λhc=>by rcases this with h | h;rw [h] at hc;cases hc.1;exact hc.2 h)];exact aW _
 | succ g=>
  simp only [nbOf];split<;>omega
theorem gO.new_eq {ι:Inj} {f:Nat} {o:Oper} {a:Act} {w:World} {e:Eff} (h:gO P ι f o a w e) {C:Nat×Blk} (E:e.wr=some C) (F:e.new=true):C.1=f:=by
 unfold gO at h;rw [E] at h;simp only [F] at h;exact h.1
theorem C7 {P:Program} {fr:Nat} {o:Oper} {e:Eff} {v:Option V} {wr:List (Nat×Blk)} {g:Nat} (h:zZ P fr o e=(v,wr,g)) {n:Nat} {ι0 ι:Inj} {w0:Base} {s:St} {nb0 nb:Nat} {a:Act} {w:World}
  (j:Inv n ι0 w0 ι (s.app o.dst e.val e.wr.toList nb0) a w) (p:∀b,fr<=b->b<fr+g->(b=fr->e.wr=none)->ι b=none) (I:∀r,e.wr=some r->e.new=true->r.1=fr) (z:nb0<=nb) (C:g=0\/fr+g<=nb):
  ∃f,(∀b,(b<fr\/fr+g<=b)->f b=ι b)/\Inv n ι0 w0 f (s.app o.dst v wr nb) a w:=by
 have i:(e.val,e.wr.toList)=(v,wr)->∃f,(∀b,(b<fr\/fr+g<=b)->f b=ι b)/\Inv n ι0 w0 f (s.app o.dst v wr nb) a w:=by
  intro e;simp only [aY] at e;obtain ⟨rfl,rfl⟩:=e;exact ⟨ι,λ_ _=>rfl,j.setnb z⟩
 unfold zZ at h;split at h
 ·rename_i k;rw [k] at j i;split at h
  ·rename_i t u M F;split at h;rename_i R H L;simp only [aY] at h;obtain ⟨rfl,rfl,rfl⟩:=h;rw [F] at j;obtain ⟨f,k1,k2⟩:=SQ L (d:=o.dst) (s:=s) j (λb x E=>p b x E λ_=>k) z (C.imp (λh=>tL h) id);exact ⟨f,k1,k2⟩
  ·simp only [aY] at h;exact i (by simp [h.1,h.2.1])
 ·rename_i r k;rw [k] at i;split at h
  ·simp only [aY] at h;exact i (by simp [h.1,h.2.1])
  ·rename_i y;split at h
   ·rename_i t l Q m;split at h;rename_i O H G;simp only [aY] at h;obtain ⟨rfl,rfl,rfl⟩:=h;obtain ⟨S,D,K⟩:=AY _ _ _ _ _ _ G;rw [lw] at D;subst D;rw [k] at j;have x:=I r k y;obtain ⟨b,blk⟩:=r;simp only at m x;subst m x;obtain ⟨f,k1,k2,J,k4⟩:=K j (λc N T=>p c (by omega) (by omega) (λq=>by omega)) nb z (C.elim (λh=>by omega) λh=>.inr (by omega));refine ⟨f,λc hc=>k1 c (by omega),?_⟩;have:=Inv.reH (A:=H) (B:=s.H) (b:=b) k4 J;simpa [St.app] using this
   ·simp only [aY] at h;exact i (by simp [h.1,h.2.1])
theorem Re {ι:Inj} {T:List (Nat×Option V)} {a:Act} (c:TR ι T a.tmps) {g:Operand} {f:Nat} {cap:List V} (h:opd T g=some (.fn f cap)):
  ∃b:Array Value,a.eval g=fnV f b/\VRs ι cap b.toList:=by
 have:=bv c h;simpa only [VR] using this
theorem zU {wr:List (Nat×Blk)} {ι:Inj} {b:Nat} {r:Option Rf} (h:vu wr ι b=some r):∃x∈wr,x.1=b:=by
 unfold vu at h;split at h
 ·rename_i a;obtain ⟨x,hx,c⟩:=tR.1 a;exact ⟨x,hx,bK c⟩
 ·cases h
theorem Cj (wr:List (Nat×Blk)) (ι:Inj):∀b r,vu wr ι b=some r->ι b=some r:=by
 intro b r h;unfold vu at h;split at h
 ·exact h
 ·cases h
theorem QC {K f:Nat} {ι:Inj} {o:Oper} {a:Act} {g:Operand} {args:Array Operand} {d:Array TypeId} {c:Array Value} {cap l:List V} (i:o.op=.call ⟨.value g,args,d⟩)
  (b:a.eval g=fnW K f c) (e:VRs ι cap c.toList) (h:VRs ι l (args.toList.map a.eval)) (w:World):
  ∃as:Array Value,VRs ι (fnAW K f l cap) as.toList/\(execOp a.eval o).run P w=(callFunc (fnFW K f) as).run P w:=by
 unfold fnAW fnFW;unfold fnW at b;cases j:Nat.blt f K<;>rw [j] at b<;>simp only at b ⊢
 ·refine ⟨c++args.map a.eval,by simpa using e.append h,?_⟩;simp only [execOp,i,resolve,b,Deferred.ofValue,Array.append_empty,aw,aD,ay,invoke]
 ·refine ⟨args.map a.eval++c,by simpa using h.append e,?_⟩;simp only [execOp,i,resolve,b,Deferred.ofValue,Array.empty_append,aw,aD,ay,invoke]
theorem AO {n fr:Nat} {ι0 ι:Inj} {w0:Base} {s:St} {o:Oper} {a:Act} {w:World} {g:Operand} {args:Array Operand} {R:Array TypeId} {f:Nat} {cap l:List V} {r:CR}
  (ho:o.op=.call ⟨.value g,args,R⟩) (d:Inv n ι0 w0 ι s a w) (I:∀b,fr<=b->b<fr+r.grow->ι b=none) (hd:vn n o.dst=true)
  (hg:opd s.T g=some (.fn f cap)) (hl:opds (opd s.T) args.toList=some l) (B:r.wr.all (λx=>Nat.ble s.ro x.1)=true)
  (C:r.kill.all (λb=>Nat.ble s.rb b)=true) (hc:GoOK P (fnF f) (fnA f l cap) s.H fr r)
  {next:Act->World->Prop} {Q:Exit->Act->World->Prop}
  (hn:r.pan=false->∀i a' w',(∀b,isIn r.kill b=false->(b<fr\/fr+r.grow<=b)->i b=ι b)->Inv n ι0 w0 i ((s.kill r.kill).app o.dst (some r.val) r.wr (max s.nb (fr+r.grow))) a' w'->next a' w')
  (hp:r.pan=true->∀i x w',VR i r.val x->Inv n ι0 w0 i ((s.kill r.kill).app none none r.wr (max s.nb (fr+r.grow))) a w'->Q (.panic [{ v:=x,recovered:=false }]) a w'):
  o.wp P a w next Q:=by
 obtain ⟨cs,Z,h2⟩:=Re d.tmps hg;have h3:=wF d.tmps hl;obtain ⟨as,K,y⟩:=QC (P:=P) ho (show a.eval g=fnW 1000000 f cs from Z) h2 h3 w;rcases hc with ⟨hE,hc⟩ | ⟨a1,a2,a3,a4,L⟩
 case inr=>
  obtain ⟨x,A,hx⟩:=L ι w as K;have k:(execOp a.eval o).run P w=.ok (.value x) w:=by rw [y];exact A
  unfold Oper.wp;rw [k];refine hn a1 ι _ _ (λ_ _ _=>rfl) ?_;rw [a2,a3,a4,cS];refine ⟨by rw [nG];exact d.size,by rw [jG];exact d.defers,TR.app (s:=s) d.tmps d.size hd (λu O=>by cases O;exact hx),?_,d.ext,d.new,d.fr,d.low,d.fz,d.gl⟩;exact ⟨d.mem.inj,λb q F=>qO (d.mem.low b q F) (EV _ _),d.mem.dom,d.mem.blk⟩
 have k:(execOp a.eval o).run P w=.ok (.enter (fnF f) as) w:=by rw [y];exact hE _ _
 unfold Oper.wp;rw [k];simp only [Oper.upon];refine (hc ι s.nb w as d.mem (d.glHere λb q j=>by
  obtain ⟨x,hx,rfl⟩:=zU j;exact ⟨Cj r.wr ι x.1 _ j,aI (cN.1 B x hx)⟩) (λx hx q F=>by
  cases hc:q.fz with
  | false=>rfl
  | true=>have:=d.fz x.1 q F hc;have:=aI (cN.1 B x hx);omega) (λb M hb2=>I b M (by omega)) K).mono λe w' h=>?_
 obtain ⟨i,g1,g0,g2,g6,g3,g4,S⟩:=h;have J:∀b q,i b=some (some q)->q.fz=true->b<s.ro:=λb q j F=>d.fz b q (g6 b q j F) F;have G:∀b,isIn r.kill b=true->s.rb<=b:=by
  intro b j;obtain ⟨c,hc1,X⟩:=tR.1 j;rw [bK X];exact aI (cN.1 C c hc1)
 have p:∀b,isIn r.kill b=false->∀q,ι b=some q->i b=some q:=by
  intro b D q j;rw [g1 b D ?_];exact j;rcases aG b fr with h | h
  ·exact .inl h
  ·rcases aG b (fr+r.grow) with h' | h'
   ·have:=I b h (by omega);rw [this] at j;cases j
   ·exact .inr h'
 have m:∀b q,ι0 b=some q->i b=some q\/s.rb<=b:=by
  intro b q j;rcases d.ext b q j with h | h
  ·cases D:isIn r.kill b with
   | true=>exact .inr (G b D)
   | false=>exact .inl (p b D q h)
  ·exact .inr h
 have t:∀b q,i b=some (some q)->(∃E,ι0 b=some (some E)/\E.r=q.r)\/w0.w.heap.size<=q.r:=by
  intro b q j;cases D:isIn r.kill b with
  | true=>
   rcases g0 b q D j with ⟨E,W,h7⟩ | W
   ·rw [<-h7];exact d.new b E W
   ·exact .inr (rq d.fr.size W)
  | false=>
   by_cases U:b<fr\/fr+r.grow<=b
   ·rw [g1 b D U] at j;exact d.new b q j
   ·have:=g2 b q (by omega) (by omega) j;exact .inr (rq d.fr.size this)
 have z:Fr (roI ι0 s.ro) w0.w w':=d.fr.trans (λb q j=>by
  obtain ⟨x,hx,rfl⟩:=zU j;have Z:=aI (cN.1 B x hx);exact (d.new x.1 q (Cj r.wr ι x.1 _ j)).imp (λ⟨E,h,hr⟩=>⟨E,CJ h Z,hr⟩) id) g4
 have hT:=d.tmps.kill p;rw [St.kill_eq] at hn hp;cases e with
 | returned x=>
  obtain ⟨Y,N⟩:=S;refine hn Y i _ _ g1 ⟨by rw [nG];exact d.size,by rw [jG];exact d.defers,TR.app (s:={ T:=vO r.kill s.T,H:=AX r.kill s.H,nb:=s.nb,lo:=s.lo,ro:=s.ro,rb:=s.rb }) hT d.size hd (λu O=>by cases O;exact N),g3,m,t,z,d.low,J,d.gl⟩
 | panicked chain=>
  obtain ⟨Y,x,rfl,N⟩:=S;exact hp Y i x _ N ⟨d.size,d.defers,hT,g3,m,t,z,d.low,J,d.gl⟩
 | outgrown=>exact S.elim
theorem GK {α:Type} {E:List Ent} (hE:∀x∈E,fH P x) {n fr:Nat} {ι0 ι:Inj} {w0:Base} {s:St} {o:Oper} {a:Act} {w:World} (H:Inv n ι0 w0 ι s a w)
  (B:∀b,fr<=b->b<fr+8->ι b=none) {k:St->List Nat->List (Nat×Blk)->Nat->Option α} {kp:V->St->Option α} {z:α} (h:Ce P E n fr o s k kp=some z)
  {next:Act->World->Prop} {Q:Exit->Act->World->Prop}
  (hn:∀s' rd wr g c p w',k s' rd wr g=some z->(∀b,(b<fr\/fr+g<=b)->c b=ι b)->Inv n ι0 w0 c s' p w'->next p w')
  (hp:∀v s' c x p w',kp v s'=some z->VR c v x->Inv n ι0 w0 c s' p w'->Q (.panic [{ v:=x,recovered:=false }]) p w'):
  o.wp P a w next Q:=by
 have X:ι fr=none:=B fr (aW _) (by omega);unfold Ce at h;split at h
 ·cases h
 rename_i hd;have L:uJ P fr o s k=some z->o.wp P a w next Q:=by
  intro h;unfold uJ at h;obtain ⟨e,N,M⟩:=Nw H.tmps H.mem X h;split at N;rename_i v wr g u;split at N
  case h_2=>cases N
  rename_i K;simp only [aA] at K;have T:=aI K.2;have F:∀R,e.wr=some R->e.new=true->R.1=fr:=λR W A=>gO.new_eq M W A;refine Ia H X hd M (λA R W=>by
   have:=K.1;unfold roOK at this;rw [W] at this;simp only [A] at this;exact aI this) λc p w' D g2 d=>?_
  obtain ⟨Y,k1,k2⟩:=C7 u d (λb S e2 e3=>by
   by_cases i:b=fr
   ·subst i;rw [g2 (.inr (e3 rfl))];exact X
   ·rw [D b i];exact B b S (by omega)) F (nb:=nbOf s.nb fr g) (Lc u) (Tv s.nb fr g)
  refine hn _ _ _ _ Y p w' N (λb U=>?_) k2;rw [k1 b U];by_cases i:b=fr
  ·subst i;refine g2 (yy u (by omega))
  ·exact D b i
 split at h
 ·rename_i cl G;split at h
  ·rename_i g q;split at h
   ·rename_i f cap hg;obtain ⟨l,hl,h⟩:=av h;obtain ⟨r,I,h3⟩:=wl hE h;split at I
    ·cases I
    rename_i m;simp only [aA] at m;have C:r.kill=[]:=by simpa using m.2.2
    have T:=aI m.1;obtain ⟨O,args,tys⟩:=cl;simp only at q;subst q;refine AO G H (λb S e2=>B b S (by omega)) hd hg hl m.2.1 (by rw [C];rfl) (h3 _ λ_ _=>rfl) (λj c p w' D d=>?_) (λj c x w' D d=>?_)
    ·rw [j] at I;rw [C] at D d;exact hn _ _ _ _ c p w' I (λb K=>D b rfl K) d
    ·rw [j] at I;rw [C] at d;exact hp _ _ c x a w' I D d
   ·cases h
  ·exact L h
 ·rename_i x G;split at h
  ·rename_i t v hx;have Z:=bv H.tmps hx;have hv':=Z;simp only [VR] at Z;obtain ⟨y,h6,_⟩:=Z;unfold Oper.wp;have J:(execOp a.eval o).run P w=.halt (.panic (.iface t y)) w:=by
    simp only [execOp,G,h6,Instr.panic,aw,run_goPanic,Result.andThen_halt]
   rw [J];exact hp _ _ ι _ a w h (h6▸hv') H
  ·cases h
 ·exact L h
theorem TR.again {ι:Inj} {T:List (Nat×Option V)} {F:Array Value} (E:TR ι T F) {d:Nat} {v:V} (G:look T d=some (some v)):TR ι ((d,some v)::T) F:=by
 intro t u C;rw [aS] at C;split at C
 ·rename_i e;subst e;simp only [au] at C;subst C;exact E d v G
 ·exact E t u C
theorem Inv.again {n:Nat} {ι0 ι:Inj} {w0:Base} {s:St} {a:Act} {w:World} (h:Inv n ι0 w0 ι s a w) {d:Nat} {v:V} (C:look s.T d=some (some v)):
  Inv n ι0 w0 ι { s with T:=(d,some v)::s.T } a w:=
 ⟨h.size,h.defers,h.tmps.again C,h.mem,h.ext,h.new,h.fr,h.low,h.fz,h.gl⟩
theorem rV {ops:List Oper} {j d:Nat} (h:gtmp ops j=some d) (a:Array Value):
  yielded ops.toArray a j=match a[d]? with | some (.bool b)=>some b | _=>none:=by
 unfold gtmp at h;split at h
 ·rename_i o c;have:(ops.toArray[j]?).bind (·.dst)=some d:=by simp [c,h]
  unfold yielded;rw [this];rfl
 ·cases h
theorem La {α:Type} {n:Nat} {ι0 ι:Inj} {w0:Base} {ops:List Oper} {o:Oper} {s:St} {a:Act} {w:World} (f:Inv n ι0 w0 ι s a w) {k:Bool->St->Option α} {z:α}
  (h:wX ops o s k=some z):∃c s',k c s'=some z/\Inv n ι0 w0 ι s' a w/\Region.wanted o (yielded ops.toArray a.tmps)=c/\(∀t,look s'.T t=look s.T t)/\s'.H=s.H/\s'.nb=s.nb:=by
 unfold wX at h;split at h
 ·rename_i i;exact ⟨true,s,h,f,by simp [Region.wanted,i],λ_=>rfl,rfl,rfl⟩
 ·rename_i j c i;split at h
  case h_2=>cases h
  rename_i d m;have hy:=rV m a.tmps;have again:∀x,look s.T d=some (some (.b x))->∀t,look ((d,some (V.b x))::s.T) t=look s.T t:=by
   intro x hx t;rw [aS];split
   ·rename_i e;subst e;exact hx.symm
   ·rfl
  split at h
  ·rename_i x hx;obtain ⟨y,l,g⟩:=f.tmps d _ hx;simp only [VR] at g;subst g;rw [l] at hy;cases x
   ·exact ⟨!c,_,h,f.again hx,by cases c<;>simp [Region.wanted,i,hy],again _ hx,rfl,rfl⟩
   ·exact ⟨c,_,h,f.again hx,by cases c<;>simp [Region.wanted,i,hy],again _ hx,rfl,rfl⟩
  ·rename_i hx;obtain ⟨y,l,g⟩:=f.tmps d _ hx;simp only [VR] at g;obtain ⟨p,rfl,_⟩:=g;rw [l] at hy;exact ⟨false,s,h,f,by simp [Region.wanted,i,hy],λ_=>rfl,rfl,rfl⟩
  ·cases h
theorem OD (ι:Inj):VR ι (.tp []) undef:=by
 simp only [VR];exact ⟨#[],rfl,by simp [VRs]⟩
theorem Inv.skip {n:Nat} {ι0 ι:Inj} {w0:Base} {s:St} {a:Act} {w:World} (h:Inv n ι0 w0 ι s a w) {d:Option Nat} (C:vn n d=true):
  Inv n ι0 w0 ι (s.app d (some (.tp [])) [] s.nb) (a.put d undef) w:=
 ⟨by rw [nG];exact h.size,by rw [jG];exact h.defers,h.tmps.app h.size C (λu E=>by cases E;exact OD ι),h.mem,h.ext,h.new,h.fr,h.low,h.fz,h.gl⟩
theorem Inv.fresh {n:Nat} {ι0 ι:Inj} {w0:Base} {s:St} {a:Act} {w:World} (h:Inv n ι0 w0 ι s a w):∀b,s.nb<=b->ι b=none:=by
 intro b C;cases hi:ι b with
 | none=>rfl
 | some r=>have:=h.mem.low b r hi;omega
end Go.Abs
