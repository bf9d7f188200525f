
/- The interpreter is sound: what it comes to is what the model's code comes to.
   Conditions: none; generic over the program. -/
import Derived.Test.YtfiponokimbeeaaGreatDoorAbsI
set_option linter.unusedSimpArgs false
set_option linter.unusedVariables false
namespace Go.Abs
variable {P:Program}
def jA (P:Program) (f:Nat):Prop:=∀(args:Array Value) (w:World),(callFunc f args).run P w=.ok (.enter f args) w
def RetR (ι:Inj) (r:CR):Ending->Prop
 | .returned x=>r.pan=false/\VR ι r.val x
 | .panicked a=>r.pan=true/\∃x,a=[{ v:=x,recovered:=false }]/\VR ι r.val x
 | .outgrown=>False
def ta (wr:List (Nat×Blk)) (ι:Inj):Inj:=λb=>if wr.any (λx=>Nat.beq x.1 b) then ι b else none
def Fa (P:Program) (f:Nat) (args:List V) (H:List (Nat×Blk)) (fr:Nat) (r:CR):Prop:=
 ∀(ι:Inj) (nb:Nat) (w:World) (d:Array Value),WR ι H nb w->GL (ta r.wr ι) w->(∀x∈r.wr,∀q,ι x.1=some (some q)->q.fz=false)->(∀b,fr<=b->b<fr+r.grow->ι b=none)->VRs ι args d.toList->
  Calls P f d w λe w'=>∃a:Inj,(∀b,isIn r.kill b=false->(b<fr\/fr+r.grow<=b)->a b=ι b)/\
   (∀b q,isIn r.kill b=true->a b=some (some q)->(∃c,ι b=some (some c)/\c.r=q.r)\/w.heap.size<=q.r)/\(∀b q,fr<=b->b<fr+r.grow->a b=some (some q)->w.heap.size<=q.r)/\(∀b q,a b=some (some q)->q.fz=true->ι b=some (some q))/\
   WR a (r.wr++zK r.kill H) (max nb (fr+r.grow)) w'/\Fr (ta r.wr ι) w w'/\RetR a r e
mutual
theorem VR.kill {ι G:Inj} {K:List Nat} (h:∀b,isIn K b=false->∀q,ι b=some q->G b=some q):∀(v:V) (x:Value),VR ι v x->VR G (V.kill K v) x
 | .b _,_,hx | .i _ _,_,hx | .s _,_,hx | .pn,_,hx | .sn,_,hx | .nf,_,hx | .ni,_,hx | .ai _ _ _,_,hx | .unk,_,hx=>by simpa only [V.kill,VR] using hx
 | .p c o,x,hx=>by
  simp only [VR] at hx;obtain ⟨q,C,rfl⟩:=hx;simp only [V.kill];cases hc:isIn K c with
  | true=>simp [VR,Value.cells,Value.oneCell']
  | false=>simp only [af,VR];exact ⟨q,h c hc _ C,rfl⟩
 | .mp c,x,hx=>by
  simp only [VR] at hx;obtain ⟨q,C,rfl⟩:=hx;simp only [V.kill];cases hc:isIn K c with
  | true=>simp [VR,Value.cells,Value.oneCell']
  | false=>simp only [af,VR];exact ⟨q,h c hc _ C,rfl⟩
 | .pr z c j o,x,hx=>by
  simp only [VR] at hx;obtain ⟨q,C,rfl⟩:=hx;simp only [V.kill];cases hc:isIn K c with
  | true=>simp [VR,Value.cells,Value.oneCell']
  | false=>simp only [af,VR];exact ⟨q,h c hc _ C,rfl⟩
 | .sl c o n m,x,hx=>by
  simp only [VR] at hx;obtain ⟨q,cp,C,E,O,rfl⟩:=hx;simp only [V.kill];cases hc:isIn K c with
  | true=>simp [VR,Value.cells,Value.oneCell']
  | false=>simp only [af,VR];exact ⟨q,cp,h c hc _ C,E,O,rfl⟩
 | .ws c,x,hx=>by
  simp only [VR] at hx;simp only [V.kill];cases hc:isIn K c with
  | true=>rcases hx with ⟨q,C,rfl⟩ | ⟨C,F,rfl⟩<;>simp [VR,Value.cells,Value.oneCell']
  | false=>
   simp only [af,VR];rcases hx with ⟨q,C,rfl⟩ | ⟨C,F,rfl⟩
   ·exact .inl ⟨q,h c hc _ C,rfl⟩
   ·exact .inr ⟨h c hc _ C,F,rfl⟩
 | .rs z c j n _,x,hx=>by
  simp only [VR] at hx;simp only [V.kill];cases hc:isIn K c with
  | true=>rcases hx with ⟨q,cp,o,C,E,O,rfl⟩ | ⟨C,E,F,rfl⟩<;>simp [VR,Value.cells,Value.oneCell']
  | false=>
   simp only [af,VR];rcases hx with ⟨q,cp,o,C,E,O,rfl⟩ | ⟨C,E,F,rfl⟩
   ·exact .inl ⟨q,cp,o,h c hc _ C,E,O,rfl⟩
   ·exact .inr ⟨h c hc _ C,E,F,rfl⟩
 | .fn f cap,x,hx=>by
  simp only [V.kill,VR] at hx ⊢;obtain ⟨J,C,E⟩:=hx;exact ⟨J,C,VRs.kill h _ _ E⟩
 | .it t v,x,hx=>by
  simp only [V.kill,VR] at hx ⊢;obtain ⟨y,C,E⟩:=hx;exact ⟨y,C,VR.kill h _ _ E⟩
 | .ag l,x,hx=>by
  simp only [V.kill,VR] at hx ⊢;obtain ⟨J,C,E⟩:=hx;exact ⟨J,C,VRs.kill h _ _ E⟩
 | .tp l,x,hx=>by
  simp only [V.kill,VR] at hx ⊢;obtain ⟨J,C,E⟩:=hx;exact ⟨J,C,VRs.kill h _ _ E⟩
theorem VRs.kill {ι C:Inj} {K:List Nat} (h:∀b,isIn K b=false->∀q,ι b=some q->C b=some q):∀(l:List V) (E:List Value),VRs ι l E->VRs C (V.kills K l) E
 | [],_,hx=>by simpa [V.kills,VRs] using hx
 | v::l,E,hx=>by
  simp only [V.kills,VRs] at hx ⊢;obtain ⟨y,G,F,J,O⟩:=hx;exact ⟨y,G,F,VR.kill h _ _ J,VRs.kill h _ _ O⟩
end
theorem BR.kill {ι E:Inj} {K:List Nat} (h:∀b,isIn K b=false->∀q,ι b=some q->E b=some q) {q:Rf}:∀{blk:Blk} {o:Obj},BR ι q blk o->BR E q (blk.kill K) o
 | .dead,_,_=>trivial
 | .rows t l,o,C=>C
 | .cells l,o,C=>by
  obtain ⟨O,e,fr,F,G,J⟩:=C;exact ⟨O,e,fr,F,VRs.kill h _ _ G,J⟩
 | .ints k n l,o,C=>C
 | .iter s pos,o,C=>C
 | .mp k l,o,C=>C
theorem sK (K:List Nat):∀(T:List (Nat×Option V)) (t:Nat),look (tP K T) t=(look T t).map (Option.map (V.kill K))
 | [],t=>rfl
 | (u,none)::T,t=>by
  simp only [tP,aN,sK K T];split<;>rfl
 | (u,some v)::T,t=>by
  simp only [tP,aN,sK K T];split<;>rfl
theorem sF (K:List Nat):∀(H:List (Nat×Blk)) (b:Nat),look (zK K H) b=(look H b).map (Blk.kill K)
 | [],t=>rfl
 | (u,v)::T,t=>by
  simp only [zK,aN,sF K T];split<;>rfl
theorem TR.kill {ι E:Inj} {K:List Nat} (h:∀b,isIn K b=false->∀q,ι b=some q->E b=some q) {T:List (Nat×Option V)} {G:Array Value} (J:TR ι T G):TR E (tP K T) G:=by
 intro t v C;rw [sK] at C;cases F:look T t with
 | none=>simp [F] at C
 | some o=>
  cases o with
  | none=>simp [F] at C
  | some u=>
   simp only [F,dU,ak] at C;subst C;obtain ⟨x,O,Q⟩:=J t u F;exact ⟨x,O,VR.kill h _ _ Q⟩
mutual
theorem V.kill_nil:∀v:V,V.kill [] v=v
 | .b _ | .i _ _ | .s _ | .pn | .sn | .nf | .ni | .ai _ _ _ | .unk | .p _ _ | .pr _ _ _ _ | .sl _ _ _ _ | .ws _ | .rs _ _ _ _ _ | .mp _=>rfl
 | .fn f l | .ag l | .tp l=>by simp only [V.kill,V.kills_nil l]
 | .it t v=>by simp only [V.kill,V.kill_nil v]
theorem V.kills_nil:∀l:List V,V.kills [] l=l
 | []=>rfl
 | v::l=>by simp only [V.kills,V.kill_nil v,V.kills_nil l]
end
theorem rU:∀H:List (Nat×Blk),zK [] H=H
 | []=>rfl
 | (b,x)::H=>by
  simp only [zK,rU H];cases x<;>simp only [Blk.kill,V.kills_nil]
theorem vR:∀T:List (Nat×Option V),tP [] T=T
 | []=>rfl
 | (b,none)::T=>by simp only [tP,vR T]
 | (b,some x)::T=>by simp only [tP,vR T,V.kill_nil]
theorem St.kill_eq (K:List Nat) (s:St):s.kill K={ T:=tP K s.T,H:=zK K s.H,nb:=s.nb,lo:=s.lo,ro:=s.ro,rb:=s.rb }:=by
 cases K with
 | nil=>simp only [St.kill,vR,rU]
 | cons b K=>rfl
def UQ (P:Program) (f:Nat) (args:List V) (r:CR):Prop:=
 r.pan=false/\r.wr=[]/\r.grow=0/\r.kill=[]/\∀(ι:Inj) (w:World) (a:Array Value),VRs ι args a.toList->∃x,(callFunc f a).run P w=.ok (.value x) w/\VR ι r.val x
def GoOK (P:Program) (f:Nat) (args:List V) (H:List (Nat×Blk)) (fr:Nat) (r:CR):Prop:=(jA P f/\Fa P f args H fr r)\/UQ P f args r
def ep (P:Program) (x:Ent):Prop:=
 ∀(α:Type) (args:List V) (H:List (Nat×Blk)) (fr:Nat) (k:CR->Option α) (z:α),x.e α args H fr k=some z->
  ∃r,k r=some z/\∀a,(∀b∈r.rd,look a b=look H b)->GoOK P x.f args a fr r
theorem tY {α:Type} {f:Nat} {args:List V} {H:List (Nat×Blk)} {fr:Nat} {k:CR->Option α} {z:α}:∀{E:List Ent},(∀x∈E,ep P x)->GF α f args H fr k E=some z->
  ∃r,k r=some z/\∀d,(∀b∈r.rd,look d b=look H b)->GoOK P f args d fr r
 | [],_,h=>by simp [GF] at h
 | x::E,c,h=>by
  simp only [GF] at h;cases a:Nat.beq x.f f with
  | true=>
   rw [a] at h;have e:=bq a;subst e;exact c x (by simp) α args H fr k z h
  | false=>
   rw [a] at h;exact tY (λy hy=>c y (eS _ hy)) h
def ExR (ι:Inj):Ex->Exit->Prop
 | .normal,e=>e=.normal
 | .exit id,e=>e=.exit id
 | .ret,e=>e=.ret
 | .pan v,e=>∃x,e=.panic [{ v:=x,recovered:=false }]/\VR ι v x
def Post (n:Nat) (ι0:Inj) (w0:Base) (b:Ex->St->Prop):Exit->Act->World->Prop:=
 λe a w=>∃ex s ι,ExR ι ex e/\Inv n ι0 w0 ι s a w/\b ex s
def SemC (P:Program) (n:Nat) (c:Code) (s:St) (b:Ex->St->Prop):Prop:=
 ∀(ι0:Inj) (w0:Base) (ι:Inj) (a:Act) (w:World),Inv n ι0 w0 ι s a w->c.wp P (Post n ι0 w0 b) a w
def iN (P:Program) (n:Nat) (L:List Sub):AC->Prop
 | .seq a b | .cond _ a b=>iN P n L a/\iN P n L b
 | .block _ a | .scope a | .loop a=>iN P n L a
 | .sub m c=>∀(α:Type) (s:St) (k:Ex->St->Option α) (z:α),Gq α m s k L=some z->SemC P n c.code s λex s'=>k ex s'=some z
 | _=>True
theorem Fr.trans {ι0 O:Inj} {w0 w w':World} (h:Fr ι0 w0 w) (U:∀b q,O b=some (some q)->(∃G,ι0 b=some (some G)/\G.r=q.r)\/w0.heap.size<=q.r) (C:Fr O w w'):Fr ι0 w0 w':=by
 refine ⟨C.os.trans h.os,C.tape.trans h.tape,C.output.trans h.output,qO h.size C.size,λk E F=>?_⟩;rw [C.blk k (mI E h.size) ?_,h.blk k E F];intro b q W;rcases U b q W with ⟨G,J,Q⟩ | J
 ·rw [<-Q];exact F b G J
 ·omega
theorem lA (a:Act) (d:Option Nat) (v:Value):(a.put d v).tmps.size=a.tmps.size:=by
 cases d<;>simp [Act.put]
theorem ip (a:Act) (d:Option Nat) (v:Value):(a.put d v).defers=a.defers:=by
 cases d<;>rfl
theorem TR.app {ι:Inj} {s:St} {a:Act} {n:Nat} {d:Option Nat} {v:Option V} {x:Value} {wr:List (Nat×Blk)} {nb:Nat} (C:TR ι s.T a.tmps) (hs:a.tmps.size=n) (F:sq n d=true)
  (E:∀u,v=some u->VR ι u x):TR ι (s.app d v wr nb).T (a.put d x).tmps:=by
 cases d with
 | none=>exact C
 | some d=>exact C.put (by rw [hs];exact aG F) E
theorem Inv.drawn {n:Nat} {ι0 ι:Inj} {w0:Base} {s:St} {a:Act} {w:World} (h:Inv n ι0 w0 ι s a w) (m:Nat):Inv n ι0 w0 ι s a { w with drawn:=m }:=
 ⟨h.size,h.defers,h.tmps,h.mem.draws m,h.ext,h.new,h.fr.draws m,h.low,h.fz,h.gl⟩
theorem EF {n fr:Nat} {ι0 ι:Inj} {w0:Base} {s:St} {o:Oper} {a:Act} {w:World} {e:Eff} (f:Inv n ι0 w0 ι s a w) (K:ι fr=none) (E:sq n o.dst=true)
  (h:fO P ι fr o a w e) (t:e.new=false->∀H,e.wr=some H->s.ro<=H.1) {next:Act->World->Prop} {Q:Exit->Act->World->Prop}
  (F:∀g I w',(∀b,b≠fr->g b=ι b)->(e.new=false\/e.wr=none->g fr=ι fr)->
   Inv n ι0 w0 g (s.app o.dst e.val e.wr.toList (if e.new=true/\e.wr≠none then max s.nb (fr+1) else s.nb)) I w'->next I w'):
  o.wp P a w next Q:=by
 have k:∀{x:Next} {w':World} {g:Inj},(execOp a.eval o).run P w=.ok x w'->NextR g e.val x->(∀y,(∀u,e.val=some u->VR g u y)->next (a.put o.dst y) w')->o.wp P a w next Q:=by
  intro x w' g D hx hy;unfold Oper.wp;rw [D];cases hx with
  | skip G=>exact hy _ (λu L=>by rw [G] at L;cases L)
  | value x G=>exact hy _ G
 unfold fO at h;split at h
 ·rename_i l;obtain ⟨x,v,z⟩:=h;refine k v z λy hy=>F ι _ _ (λ_ _=>rfl) (λ_=>rfl) ?_;rw [l];simp only [ne_eq,sQ,and_false,aE];exact ⟨by rw [lA];exact f.size,by rw [ip];exact f.defers,f.tmps.app f.size E hy,f.mem,f.ext,f.new,f.fr,f.low,f.fz,f.gl⟩
 ·rename_i b blk l;split at h
  ·rename_i i;obtain ⟨r,v,M⟩:=h;have m:r.fz=false:=by
    cases hc:r.fz with
    | false=>rfl
    | true=>have:=f.fz b r v hc;have:=t i _ l;simp only at this;omega
   obtain ⟨ob,x,z,C,A⟩:=M m;refine k z A λy hy=>F ι _ _ (λ_ _=>rfl) (λ_=>rfl) ?_;rw [l,i];simp only [bj,false_and,aE];refine ⟨by rw [lA];exact f.size,by rw [ip];exact f.defers,f.tmps.app f.size E hy,f.mem.write v m C,f.ext,f.new,?_,f.low,f.fz,f.gl⟩;exact f.fr.write ((f.new b r v).imp (λ⟨N,h,D⟩=>⟨b,N,AK h (t i _ l),D⟩) id) _
  ·rename_i i;obtain ⟨rfl,d,q,ob,x,z,J,B,C,A⟩:=h;have j:=nG (r:=some q) K;refine k z A λy hy=>F (upd ι b (some q)) _ _ (λc hc=>by simp [upd,hc]) (λhc=>by rw [i,l] at hc;simp at hc) ?_;rw [l,i];simp only [ne_eq,reduceCtorEq,Ce,and_self,aI]
   refine ⟨by rw [lA];exact f.size,by rw [ip];exact f.defers,(f.tmps.mono j).app f.size E hy,(f.mem.draws d).alloc K (by simp only [St.app];omega) (by simp only [St.app];omega) J C,λc q hc=>(f.ext c q hc).imp (j _ _) id,λc q hc=>?_,(f.fr.draws d).alloc ob,f.low,λc p hc hp=>by
    unfold upd at hc;split at hc
    ·simp only [ak] at hc;subst hc;rw [B] at hp;cases hp
    ·exact f.fz c p hc hp,f.gl⟩
   unfold upd at hc;split at hc
   ·simp only [ak] at hc;subst hc;exact .inr (by rw [J];exact f.fr.size)
   ·exact f.new c q hc
theorem Inv.phantom' {n:Nat} {ι0 ι:Inj} {w0:Base} {s:St} {a:Act} {w:World} (E:Inv n ι0 w0 ι s a w) {g:Nat} (Y:ι g=none) {nb:Nat} (U:s.nb<=nb) (hg:g<nb) (tr:List Lf):
  Inv n ι0 w0 (upd ι g none) { T:=s.T,H:=(g,.rows tr [])::s.H,nb:=nb,lo:=s.lo,ro:=s.ro,rb:=s.rb } a w:=by
 have G:=nG (r:=none) Y;have F:∀b,b≠g->upd ι g none b=ι b:=λb J=>by simp [upd,J]
 have C:∀b q,upd ι g none b=some (some q)->ι b=some (some q):=by
  intro b q h;by_cases J:b=g
  ·subst J;rw [cX] at h;cases h
  ·rwa [F b J] at h
 refine ⟨E.size,E.defers,E.tmps.mono G,⟨λb W q q' Z X=>E.mem.inj b W q q' (C _ _ Z) (C _ _ X),λb q e=>?_,λb q e=>E.mem.dom b q (C _ _ e),λb y O hd=>?_⟩,
  λb q e=>(E.ext b q e).imp (G _ _) id,λb q e=>E.new b q (C _ _ e),E.fr,E.low,λb q e=>E.fz b q (C _ _ e),E.gl⟩
 ·by_cases J:b=g
  ·subst J;exact hg
  ·rw [F b J] at e;exact mI (E.mem.low b q e) U
 ·rw [aN] at O;split at O
  ·rename_i e;subst e;simp only [ak] at O;subst O;exact .inr ⟨cX _ _ _,tr,rfl⟩
  ·rename_i Q;exact (E.mem.blk b y O hd).map (F b (λe=>Q e.symm)) (λ_ _=>rfl) (λ_ _ h=>BR.mono G h) (λ_ h=>h)
theorem Inv.setnb {n:Nat} {ι0 ι:Inj} {w0:Base} {s:St} {a:Act} {w:World} (C:Inv n ι0 w0 ι s a w) {nb:Nat} (h:s.nb<=nb):
  Inv n ι0 w0 ι { T:=s.T,H:=s.H,nb:=nb,lo:=s.lo,ro:=s.ro,rb:=s.rb } a w:=
 ⟨C.size,C.defers,C.tmps,⟨C.mem.inj,λb q e=>mI (C.mem.low b q e) h,C.mem.dom,C.mem.blk⟩,C.ext,C.new,C.fr,C.low,C.fz,C.gl⟩
theorem OE {ι:Inj} {g:Nat} (a:ι g=some none) {x:Value} (h:VR ι .sn x):VR ι (.ws g) x:=by
 simp only [VR] at h ⊢;exact .inr ⟨a,none,h⟩
theorem zg:∀(ns:List (Nat×List Lf)) (g:Nat) (l:List V) (d:List (Nat×Blk)) (t:List V) (H:List (Nat×Blk)),nilL g ns l d=(t,H)->∃m,H=m++d/\
  ∀{n:Nat} {ι0 ι:Inj} {w0:Base} {s:St} {a:Act} {w:World},Inv n ι0 w0 ι s a w->(∀b,g<=b->b<g+m.length->ι b=none)->∀nb,s.nb<=nb->(m=[]\/g+m.length<=nb)->
   ∃c,(∀b,(b<g\/g+m.length<=b)->c b=ι b)/\(∀b q,ι b=some q->c b=some q)/\(∀o,VRs c l o->VRs c t o)/\
    Inv n ι0 w0 c { T:=s.T,H:=m++s.H,nb:=nb,lo:=s.lo,ro:=s.ro,rb:=s.rb } a w
 | [],g,l,d,t,H,h=>by
  simp only [nilL,bz] at h;obtain ⟨rfl,rfl⟩:=h;exact ⟨[],rfl,λ{n ι0 ι w0 s a w} z f nb B v=>⟨ι,λ_ _=>rfl,λ_ _ h=>h,λ_ h=>h,z.setnb B⟩⟩
 | (i,tr)::r,g,l,d,t,H,h=>by
  simp only [nilL] at h;split at h
  ·rename_i hi;obtain ⟨y,rfl,G⟩:=zg r (g+1) _ _ _ _ h;refine ⟨y++[(g,.rows tr [])],by simp,λ{n ι0 ι w0 s a w} z f nb B v=>?_⟩;have u:(y++[((g,.rows tr []):Nat×Blk)]).length=y.length+1:=by simp
   rw [u] at f v ⊢;have v:g+(y.length+1)<=nb:=v.resolve_left (by simp);have C:=f g (aQ _) (by omega);have p:=nG (r:=none) C
   obtain ⟨c,k1,k2,E,k4⟩:=G (z.phantom' C B (by omega) tr) (λb J I=>by
    have:upd ι g none b=ι b:=by simp [upd,show b≠g by omega]
    rw [this];exact f b (by omega) (by omega)) nb (aQ _) (.inr (by omega))
   refine ⟨c,λb D=>?_,λb q D=>k2 b q (p b q D),λo hx=>E o ?_,by simpa using k4⟩
   ·rw [k1 b (by omega)];simp [upd,show b≠g by omega]
   ·obtain ⟨x,k,A⟩:=hx.get hi;have:=hx.set i (OE (g:=g) (k2 _ _ (cX _ _ _)) A);rwa [show o.set i x=o from by
     apply Bg;intro j;rw [List.getElem?_set];split
     ·rename_i e;subst e;split
      ·exact k.symm
      ·rename_i F;rw [fX (by omega)] at k;cases k
     ·rfl] at this
  ·exact zg r g l d t H h
theorem Pi {α:Type} (l m:List (Nat×α)) (n:Nat):look (l++m) n=(look l n).or (look m n):=by
 induction l with
 | nil=>rfl
 | cons x l ih=>
  obtain ⟨k,v⟩:=x;rw [dQ,aN,aN,ih];split<;>rfl
theorem Inv.reH {n:Nat} {ι0 ι:Inj} {w0:Base} {T:List (Nat×Option V)} {A B:List (Nat×Blk)} {b nb lo ro rb:Nat} {l J:List V} {a:Act} {w:World}
  (E:Inv n ι0 w0 ι ⟨T,A++(b,.cells l)::B,nb,lo,ro,rb⟩ a w) (h:∀G,VRs ι l G->VRs ι J G):Inv n ι0 w0 ι ⟨T,A++(b,.cells J)::B,nb,lo,ro,rb⟩ a w:=by
 refine ⟨E.size,E.defers,E.tmps,⟨E.mem.inj,E.mem.low,E.mem.dom,λc y hc Q=>?_⟩,E.ext,E.new,E.fr,E.low,E.fz,E.gl⟩;have C:=E.mem.blk c;rw [Pi,aN] at hc C;cases O:look A c with
 | some z=>rw [O] at hc C;exact C y hc Q
 | none=>
  rw [O] at hc C;simp only [Ci] at hc C;split at hc
  ·rename_i e;rw [ae e] at C;simp only [ak] at hc;subst hc;rcases C _ rfl (by simp) with ⟨q,o,Z,F,h3⟩ | ⟨_,t,F⟩
   ·obtain ⟨cs,W,fr,X,U,Y⟩:=h3;exact .inl ⟨q,o,Z,F,cs,W,fr,X,h _ U,Y⟩
   ·cases F
  ·rename_i e;rw [ab e] at C;exact C y hc Q
theorem Inv.reT {n:Nat} {ι0 ι:Inj} {w0:Base} {s:St} {wr:List (Nat×Blk)} {d:Option Nat} {nb:Nat} {v J:V} {a:Act} {w:World}
  (E:Inv n ι0 w0 ι (s.app d (some v) wr nb) a w) (h:∀x,VR ι v x->VR ι J x):Inv n ι0 w0 ι (s.app d (some J) wr nb) a w:=by
 refine ⟨E.size,E.defers,?_,E.mem,E.ext,E.new,E.fr,E.low,E.fz,E.gl⟩;have G:=E.tmps;cases d with
 | none=>exact G
 | some d=>
  intro t u F;have C:=G t;simp only [St.app,aN] at F C;split at F
  ·rename_i e;rw [ae e] at C;simp only [ak] at F;subst F;obtain ⟨x,O,Q⟩:=C v rfl;exact ⟨x,O,h x Q⟩
  ·rename_i e;rw [ab e] at C;exact C u F
theorem OQ {P:Program} {t:TypeId} {g:Nat} {v m:V} {f:List (Nat×Blk)} (h:nilV P t g v=(m,f)) {n:Nat} {ι0 ι:Inj} {w0:Base} {s:St} {d:Option Nat} {nb0:Nat} {a:Act} {w:World}
  (p:Inv n ι0 w0 ι (s.app d (some v) [] nb0) a w) (k:∀b,g<=b->b<g+f.length->ι b=none) {nb:Nat} (q:nb0<=nb) (o:f=[]\/g+f.length<=nb):
  ∃c,(∀b,(b<g\/g+f.length<=b)->c b=ι b)/\Inv n ι0 w0 c (s.app d (some m) f nb) a w:=by
 have j:(v,([]:List (Nat×Blk)))=(m,f)->∃c,(∀b,(b<g\/g+f.length<=b)->c b=ι b)/\Inv n ι0 w0 c (s.app d (some m) f nb) a w:=by
  intro e;simp only [bz] at e;obtain ⟨rfl,rfl⟩:=e;exact ⟨ι,λ_ _=>rfl,p.setnb q⟩
 unfold nilV at h;split at h
 ·split at h
  ·rename_i i tr r I;simp only [bz] at h;obtain ⟨rfl,rfl⟩:=h;have z:=k g (aQ _) (by simp);have o:g+1<=nb:=by simpa using o
   have:=p.phantom' z q o tr;exact ⟨upd ι g none,λb C=>by simp only [List.length_singleton] at C;simp [upd,show b≠g by omega],Inv.reT (s:=s) (wr:=[(g,.rows tr [])]) (v:=.sn) this λx hx=>OE (cX _ _ _) hx⟩
  ·exact j h
 ·rename_i l;split at h;rename_i G F u;simp only [bz] at h;obtain ⟨rfl,rfl⟩:=h;obtain ⟨H,e,D⟩:=zg _ _ _ _ _ _ u;rw [jP] at e;subst e;obtain ⟨c,k1,k2,y,k4⟩:=D p k nb q o;refine ⟨c,k1,Inv.reT (s:=s) (wr:=F) (v:=.ag l) k4 λx hx=>?_⟩;simp only [VR] at hx ⊢;obtain ⟨A,E,B⟩:=hx;exact ⟨A,E,y _ B⟩
 ·exact j h
theorem Pe (nb fr:Nat):∀g,g=0\/fr+g<=nbOf nb fr g
 | 0=>.inl rfl
 | _+1=>.inr (Nat.le_max_right _ _)
theorem wm {P:Program} {fr:Nat} {o:Oper} {e:Eff} {v:Option V} {wr:List (Nat×Blk)} {g:Nat} (h:xN P fr o e=(v,wr,g)) (c:g=0):e.new=false\/e.wr=none:=by
 unfold xN at h;split at h
 ·rename_i a;exact .inr a
 ·split at h
  ·rename_i b;exact .inl b
  ·split at h
   ·split at h;simp only [bz] at h;omega
   ·simp only [bz] at h;omega
theorem JU {P:Program} {fr nb:Nat} {o:Oper} {e:Eff} {v:Option V} {wr:List (Nat×Blk)} {g:Nat} (h:xN P fr o e=(v,wr,g)):
  (if e.new=true/\e.wr≠none then max nb (fr+1) else nb)<=nbOf nb fr g:=by
 cases g with
 | zero=>
  have:=wm h rfl;rw [ab (λhc=>by rcases this with h | h;rw [h] at hc;cases hc.1;exact hc.2 h)];exact aQ _
 | succ g=>
  simp only [nbOf];split<;>omega
theorem fO.new_eq {ι:Inj} {f:Nat} {o:Oper} {a:Act} {w:World} {e:Eff} (h:fO P ι f o a w e) {C:Nat×Blk} (E:e.wr=some C) (F:e.new=true):C.1=f:=by
 unfold fO at h;rw [E] at h;simp only [F] at h;exact h.1
theorem Aq {P:Program} {fr:Nat} {o:Oper} {e:Eff} {v:Option V} {wr:List (Nat×Blk)} {g:Nat} (h:xN P fr o e=(v,wr,g)) {n:Nat} {ι0 ι:Inj} {w0:Base} {s:St} {nb0 nb:Nat} {a:Act} {w:World}
  (j:Inv n ι0 w0 ι (s.app o.dst e.val e.wr.toList nb0) a w) (m:∀b,fr<=b->b<fr+g->(b=fr->e.wr=none)->ι b=none) (I:∀p,e.wr=some p->e.new=true->p.1=fr) (z:nb0<=nb) (D:g=0\/fr+g<=nb):
  ∃f,(∀b,(b<fr\/fr+g<=b)->f b=ι b)/\Inv n ι0 w0 f (s.app o.dst v wr nb) a w:=by
 have i:(e.val,e.wr.toList)=(v,wr)->∃f,(∀b,(b<fr\/fr+g<=b)->f b=ι b)/\Inv n ι0 w0 f (s.app o.dst v wr nb) a w:=by
  intro e;simp only [bz] at e;obtain ⟨rfl,rfl⟩:=e;exact ⟨ι,λ_ _=>rfl,j.setnb z⟩
 unfold xN at h;split at h
 ·rename_i k;rw [k] at j i;split at h
  ·rename_i t u Q K;split at h;rename_i N H J;simp only [bz] at h;obtain ⟨rfl,rfl,rfl⟩:=h;rw [K] at j;obtain ⟨f,k1,k2⟩:=OQ J (d:=o.dst) (s:=s) j (λb x G=>m b x G λ_=>k) z (D.imp (λh=>pq h) id);exact ⟨f,k1,k2⟩
  ·simp only [bz] at h;exact i (by simp [h.1,h.2.1])
 ·rename_i p k;rw [k] at i;split at h
  ·simp only [bz] at h;exact i (by simp [h.1,h.2.1])
  ·rename_i y;split at h
   ·rename_i t l O r;split at h;rename_i M H E;simp only [bz] at h;obtain ⟨rfl,rfl,rfl⟩:=h;obtain ⟨S,C,L⟩:=zg _ _ _ _ _ _ E;rw [jP] at C;subst C;rw [k] at j;have x:=I p k y;obtain ⟨b,blk⟩:=p;simp only at r x;subst r x;obtain ⟨f,k1,k2,F,k4⟩:=L j (λc T R=>m c (by omega) (by omega) (λq=>by omega)) nb z (D.elim (λh=>by omega) λh=>.inr (by omega));refine ⟨f,λc hc=>k1 c (by omega),?_⟩;have:=Inv.reH (A:=H) (B:=s.H) (b:=b) k4 F;simpa [St.app] using this
   ·simp only [bz] at h;exact i (by simp [h.1,h.2.1])
theorem N8 {ι:Inj} {T:List (Nat×Option V)} {a:Act} (c:TR ι T a.tmps) {g:Operand} {f:Nat} {cap:List V} (h:opd T g=some (.fn f cap)):
  ∃b:Array Value,a.eval g=fnV f b/\VRs ι cap b.toList:=by
 have:=bh c h;simpa only [VR] using this
theorem xB {wr:List (Nat×Blk)} {ι:Inj} {b:Nat} {r:Option Rf} (h:ta wr ι b=some r):∃x∈wr,x.1=b:=by
 unfold ta at h;split at h
 ·rename_i a;obtain ⟨x,hx,c⟩:=qw.1 a;exact ⟨x,hx,bq c⟩
 ·cases h
theorem Ac (wr:List (Nat×Blk)) (ι:Inj):∀b r,ta wr ι b=some r->ι b=some r:=by
 intro b r h;unfold ta at h;split at h
 ·exact h
 ·cases h
theorem Lp {K f:Nat} {ι:Inj} {o:Oper} {a:Act} {g:Operand} {args:Array Operand} {d:Array TypeId} {c:Array Value} {cap l:List V} (e:o.op=.call ⟨.value g,args,d⟩)
  (b:a.eval g=fnW K f c) (h:VRs ι cap c.toList) (i:VRs ι l (args.toList.map a.eval)) (w:World):
  ∃as:Array Value,VRs ι (fnAW K f l cap) as.toList/\(execOp a.eval o).run P w=(callFunc (fnFW K f) as).run P w:=by
 unfold fnAW fnFW;unfold fnW at b;cases j:Nat.blt f K<;>rw [j] at b<;>simp only at b ⊢
 ·refine ⟨c++args.map a.eval,by simpa using h.append i,?_⟩;simp only [execOp,e,resolve,b,Deferred.ofValue,Array.append_empty,aw,aD,az,invoke]
 ·refine ⟨args.map a.eval++c,by simpa using i.append h,?_⟩;simp only [execOp,e,resolve,b,Deferred.ofValue,Array.empty_append,aw,aD,az,invoke]
theorem yz {n fr:Nat} {ι0 ι:Inj} {w0:Base} {s:St} {o:Oper} {a:Act} {w:World} {g:Operand} {args:Array Operand} {S:Array TypeId} {f:Nat} {cap l:List V} {r:CR}
  (ho:o.op=.call ⟨.value g,args,S⟩) (d:Inv n ι0 w0 ι s a w) (G:∀b,fr<=b->b<fr+r.grow->ι b=none) (hd:sq n o.dst=true)
  (hg:opd s.T g=some (.fn f cap)) (hl:opds (opd s.T) args.toList=some l) (A:r.wr.all (λx=>Nat.ble s.ro x.1)=true)
  (C:r.kill.all (λb=>Nat.ble s.rb b)=true) (hc:GoOK P (fnF f) (fnA f l cap) s.H fr r)
  {next:Act->World->Prop} {Q:Exit->Act->World->Prop}
  (hn:r.pan=false->∀i a' w',(∀b,isIn r.kill b=false->(b<fr\/fr+r.grow<=b)->i b=ι b)->Inv n ι0 w0 i ((s.kill r.kill).app o.dst (some r.val) r.wr (max s.nb (fr+r.grow))) a' w'->next a' w')
  (hp:r.pan=true->∀i x w',VR i r.val x->Inv n ι0 w0 i ((s.kill r.kill).app none none r.wr (max s.nb (fr+r.grow))) a w'->Q (.panic [{ v:=x,recovered:=false }]) a w'):
  o.wp P a w next Q:=by
 obtain ⟨cs,h1,h2⟩:=N8 d.tmps hg;have h3:=uF d.tmps hl;obtain ⟨as,K,y⟩:=Lp (P:=P) ho (show a.eval g=fnW 1000000 f cs from h1) h2 h3 w;rcases hc with ⟨hE,hc⟩ | ⟨a1,a2,a3,a4,J⟩
 case inr=>
  obtain ⟨x,B,hx⟩:=J ι w as K;have m:(execOp a.eval o).run P w=.ok (.value x) w:=by rw [y];exact B
  unfold Oper.wp;rw [m];refine hn a1 ι _ _ (λ_ _ _=>rfl) ?_;rw [a2,a3,a4,bZ];refine ⟨by rw [lA];exact d.size,by rw [ip];exact d.defers,TR.app (s:=s) d.tmps d.size hd (λu Z=>by cases Z;exact hx),?_,d.ext,d.new,d.fr,d.low,d.fz,d.gl⟩;exact ⟨d.mem.inj,λb q E=>mI (d.mem.low b q E) (Dk _ _),d.mem.dom,d.mem.blk⟩
 have m:(execOp a.eval o).run P w=.ok (.enter (fnF f) as) w:=by rw [y];exact hE _ _
 unfold Oper.wp;rw [m];simp only [Oper.upon];refine (hc ι s.nb w as d.mem (d.glHere λb q j=>by
  obtain ⟨x,hx,rfl⟩:=xB j;exact ⟨Ac r.wr ι x.1 _ j,aG (bG.1 A x hx)⟩) (λx hx q E=>by
  cases hc:q.fz with
  | false=>rfl
  | true=>have:=d.fz x.1 q E hc;have:=aG (bG.1 A x hx);omega) (λb U hb2=>G b U (by omega)) K).mono λe w' h=>?_
 obtain ⟨i,M,g0,g2,g6,g3,g4,g5⟩:=h;have I:∀b q,i b=some (some q)->q.fz=true->b<s.ro:=λb q j E=>d.fz b q (g6 b q j E) E;have L:∀b,isIn r.kill b=true->s.rb<=b:=by
  intro b j;obtain ⟨c,R,Y⟩:=qw.1 j;rw [bq Y];exact aG (bG.1 C c R)
 have p:∀b,isIn r.kill b=false->∀q,ι b=some q->i b=some q:=by
  intro b D q j;rw [M b D ?_];exact j;rcases aF b fr with h | h
  ·exact .inl h
  ·rcases aF b (fr+r.grow) with h' | h'
   ·have:=G b h (by omega);rw [this] at j;cases j
   ·exact .inr h'
 have k:∀b q,ι0 b=some q->i b=some q\/s.rb<=b:=by
  intro b q j;rcases d.ext b q j with h | h
  ·cases D:isIn r.kill b with
   | true=>exact .inr (L b D)
   | false=>exact .inl (p b D q h)
  ·exact .inr h
 have t:∀b q,i b=some (some q)->(∃F,ι0 b=some (some F)/\F.r=q.r)\/w0.w.heap.size<=q.r:=by
  intro b q j;cases D:isIn r.kill b with
  | true=>
   rcases g0 b q D j with ⟨F,h6,h7⟩ | h6
   ·rw [<-h7];exact d.new b F h6
   ·exact .inr (qO d.fr.size h6)
  | false=>
   by_cases W:b<fr\/fr+r.grow<=b
   ·rw [M b D W] at j;exact d.new b q j
   ·have:=g2 b q (by omega) (by omega) j;exact .inr (qO d.fr.size this)
 have z:Fr (roI ι0 s.ro) w0.w w':=d.fr.trans (λb q j=>by
  obtain ⟨x,hx,rfl⟩:=xB j;have h1:=aG (bG.1 A x hx);exact (d.new x.1 q (Ac r.wr ι x.1 _ j)).imp (λ⟨F,h,hr⟩=>⟨F,AK h h1,hr⟩) id) g4
 have hT:=d.tmps.kill p;rw [St.kill_eq] at hn hp;cases e with
 | returned x=>
  obtain ⟨N,O⟩:=g5;refine hn N i _ _ M ⟨by rw [lA];exact d.size,by rw [ip];exact d.defers,TR.app (s:={ T:=tP r.kill s.T,H:=zK r.kill s.H,nb:=s.nb,lo:=s.lo,ro:=s.ro,rb:=s.rb }) hT d.size hd (λu Z=>by cases Z;exact O),g3,k,t,z,d.low,I,d.gl⟩
 | panicked X=>
  obtain ⟨N,x,rfl,O⟩:=g5;exact hp N i x _ O ⟨d.size,d.defers,hT,g3,k,t,z,d.low,I,d.gl⟩
 | outgrown=>exact g5.elim
theorem EQ {α:Type} {E:List Ent} (hE:∀x∈E,ep P x) {n fr:Nat} {ι0 ι:Inj} {w0:Base} {s:St} {o:Oper} {a:Act} {w:World} (H:Inv n ι0 w0 ι s a w)
  (u:∀b,fr<=b->b<fr+8->ι b=none) {k:St->List Nat->List (Nat×Blk)->Nat->Option α} {kp:V->St->Option α} {z:α} (h:BU P E n fr o s k kp=some z)
  {next:Act->World->Prop} {Q:Exit->Act->World->Prop}
  (hn:∀s' rd wr g c m w',k s' rd wr g=some z->(∀b,(b<fr\/fr+g<=b)->c b=ι b)->Inv n ι0 w0 c s' m w'->next m w')
  (hp:∀v s' c x m w',kp v s'=some z->VR c v x->Inv n ι0 w0 c s' m w'->Q (.panic [{ v:=x,recovered:=false }]) m w'):
  o.wp P a w next Q:=by
 have W:ι fr=none:=u fr (aQ _) (by omega);unfold BU at h;split at h
 ·cases h
 rename_i hd;have J:sD P fr o s k=some z->o.wp P a w next Q:=by
  intro h;unfold sD at h;obtain ⟨e,O,K⟩:=Hz H.tmps H.mem W h;split at O;rename_i v wr g B;split at O
  case h_2=>cases O
  rename_i M;simp only [aB] at M;have S:=aG M.2;have D:∀N,e.wr=some N->e.new=true->N.1=fr:=λN Y F=>fO.new_eq K Y F;refine EF H W hd K (λF N Y=>by
   have:=M.1;unfold roOK at this;rw [Y] at this;simp only [F] at this;exact aG this) λc m w' A g2 d=>?_
  obtain ⟨T,k1,k2⟩:=Aq B d (λb Z e2 e3=>by
   by_cases j:b=fr
   ·subst j;rw [g2 (.inr (e3 rfl))];exact W
   ·rw [A b j];exact u b Z (by omega)) D (nb:=nbOf s.nb fr g) (JU B) (Pe s.nb fr g)
  refine hn _ _ _ _ T m w' O (λb U=>?_) k2;rw [k1 b U];by_cases j:b=fr
  ·subst j;refine g2 (wm B (by omega))
  ·exact A b j
 split at h
 ·rename_i cl C;split at h
  ·rename_i g q;split at h
   ·rename_i f cap hg;obtain ⟨l,hl,h⟩:=au h;obtain ⟨r,I,h3⟩:=tY hE h;split at I
    ·cases I
    rename_i p;simp only [aB] at p;have G:r.kill=[]:=by simpa using p.2.2
    have S:=aG p.1;obtain ⟨R,args,tys⟩:=cl;simp only at q;subst q;refine yz C H (λb Z e2=>u b Z (by omega)) hd hg hl p.2.1 (by rw [G];rfl) (h3 _ λ_ _=>rfl) (λi c m w' A d=>?_) (λi c x w' A d=>?_)
    ·rw [i] at I;rw [G] at A d;exact hn _ _ _ _ c m w' I (λb M=>A b rfl M) d
    ·rw [i] at I;rw [G] at d;exact hp _ _ c x a w' I A d
   ·cases h
  ·exact J h
 ·rename_i x C;split at h
  ·rename_i t v hx;have X:=bh H.tmps hx;have hv':=X;simp only [VR] at X;obtain ⟨y,h6,_⟩:=X;unfold Oper.wp;have L:(execOp a.eval o).run P w=.halt (.panic (.iface t y)) w:=by
    simp only [execOp,C,h6,Instr.panic,aw,run_goPanic,Result.andThen_halt]
   rw [L];exact hp _ _ ι _ a w h (h6▸hv') H
  ·cases h
 ·exact J h
theorem TR.again {ι:Inj} {T:List (Nat×Option V)} {E:Array Value} (F:TR ι T E) {d:Nat} {v:V} (G:look T d=some (some v)):TR ι ((d,some v)::T) E:=by
 intro t u C;rw [aN] at C;split at C
 ·rename_i e;subst e;simp only [ak] at C;subst C;exact F d v G
 ·exact F t u C
theorem Inv.again {n:Nat} {ι0 ι:Inj} {w0:Base} {s:St} {a:Act} {w:World} (h:Inv n ι0 w0 ι s a w) {d:Nat} {v:V} (C:look s.T d=some (some v)):
  Inv n ι0 w0 ι { s with T:=(d,some v)::s.T } a w:=
 ⟨h.size,h.defers,h.tmps.again C,h.mem,h.ext,h.new,h.fr,h.low,h.fz,h.gl⟩
theorem pJ {ops:List Oper} {j d:Nat} (h:gtmp ops j=some d) (a:Array Value):
  yielded ops.toArray a j=match a[d]? with | some (.bool b)=>some b | _=>none:=by
 unfold gtmp at h;split at h
 ·rename_i o c;have:(ops.toArray[j]?).bind (·.dst)=some d:=by simp [c,h]
  unfold yielded;rw [this];rfl
 ·cases h
theorem HF {α:Type} {n:Nat} {ι0 ι:Inj} {w0:Base} {ops:List Oper} {o:Oper} {s:St} {a:Act} {w:World} (f:Inv n ι0 w0 ι s a w) {k:Bool->St->Option α} {z:α}
  (h:uQ ops o s k=some z):∃c s',k c s'=some z/\Inv n ι0 w0 ι s' a w/\Region.wanted o (yielded ops.toArray a.tmps)=c/\(∀t,look s'.T t=look s.T t)/\s'.H=s.H/\s'.nb=s.nb:=by
 unfold uQ at h;split at h
 ·rename_i g;exact ⟨true,s,h,f,by simp [Region.wanted,g],λ_=>rfl,rfl,rfl⟩
 ·rename_i j c g;split at h
  case h_2=>cases h
  rename_i d m;have hy:=pJ m a.tmps;have again:∀x,look s.T d=some (some (.b x))->∀t,look ((d,some (V.b x))::s.T) t=look s.T t:=by
   intro x hx t;rw [aN];split
   ·rename_i e;subst e;exact hx.symm
   ·rfl
  split at h
  ·rename_i x hx;obtain ⟨y,l,i⟩:=f.tmps d _ hx;simp only [VR] at i;subst i;rw [l] at hy;cases x
   ·exact ⟨!c,_,h,f.again hx,by cases c<;>simp [Region.wanted,g,hy],again _ hx,rfl,rfl⟩
   ·exact ⟨c,_,h,f.again hx,by cases c<;>simp [Region.wanted,g,hy],again _ hx,rfl,rfl⟩
  ·rename_i hx;obtain ⟨y,l,i⟩:=f.tmps d _ hx;simp only [VR] at i;obtain ⟨p,rfl,_⟩:=i;rw [l] at hy;exact ⟨false,s,h,f,by simp [Region.wanted,g,hy],λ_=>rfl,rfl,rfl⟩
  ·cases h
theorem NL (ι:Inj):VR ι (.tp []) undef:=by
 simp only [VR];exact ⟨#[],rfl,by simp [VRs]⟩
theorem Inv.skip {n:Nat} {ι0 ι:Inj} {w0:Base} {s:St} {a:Act} {w:World} (h:Inv n ι0 w0 ι s a w) {d:Option Nat} (E:sq n d=true):
  Inv n ι0 w0 ι (s.app d (some (.tp [])) [] s.nb) (a.put d undef) w:=
 ⟨by rw [lA];exact h.size,by rw [ip];exact h.defers,h.tmps.app h.size E (λu C=>by cases C;exact NL ι),h.mem,h.ext,h.new,h.fr,h.low,h.fz,h.gl⟩
theorem Inv.fresh {n:Nat} {ι0 ι:Inj} {w0:Base} {s:St} {a:Act} {w:World} (h:Inv n ι0 w0 ι s a w):∀b,s.nb<=b->ι b=none:=by
 intro b C;cases hi:ι b with
 | none=>rfl
 | some r=>have:=h.mem.low b r hi;omega
end Go.Abs
