
/- The interpreter is sound: what it comes to is what the model's code comes to.
   Conditions: none; generic over the program. -/
import Derived.Test.YtfiponokimbeeaaGreatDoorAbsI
set_option linter.unusedSimpArgs false
set_option linter.unusedVariables false
namespace Go.Abs
variable {P:Program}
def jE (P:Program) (f:Nat):Prop:=∀(args:Array Value) (w:World),(callFunc f args).run P w=.ok (.enter f args) w
def RetR (ι:Inj) (r:CR):Ending->Prop
 | .returned x=>r.pan=false/\VR ι r.val x
 | .panicked a=>r.pan=true/\∃x,a=[{ v:=x,recovered:=false }]/\VR ι r.val x
 | .outgrown=>False
def uw (wr:List (Nat×Blk)) (ι:Inj):Inj:=λb=>if wr.any (λx=>Nat.beq x.1 b) then ι b else none
def FC (P:Program) (f:Nat) (args:List V) (H:List (Nat×Blk)) (fr:Nat) (r:CR):Prop:=
 ∀(ι:Inj) (nb:Nat) (w:World) (c:Array Value),WR ι H nb w->GL (uw r.wr ι) w->(∀x∈r.wr,∀q,ι x.1=some (some q)->q.fz=false)->(∀b,fr<=b->b<fr+r.grow->ι b=none)->VRs ι args c.toList->
  Calls P f c w λe w'=>∃a:Inj,(∀b,isIn r.kill b=false->(b<fr\/fr+r.grow<=b)->a b=ι b)/\
   (∀b q,isIn r.kill b=true->a b=some (some q)->(∃d,ι b=some (some d)/\d.r=q.r)\/w.heap.size<=q.r)/\(∀b q,fr<=b->b<fr+r.grow->a b=some (some q)->w.heap.size<=q.r)/\(∀b q,a b=some (some q)->q.fz=true->ι b=some (some q))/\
   WR a (r.wr++Af r.kill H) (max nb (fr+r.grow)) w'/\Fr (uw r.wr ι) w w'/\RetR a r e
mutual
theorem VR.kill {ι G:Inj} {K:List Nat} (h:∀b,isIn K b=false->∀q,ι b=some q->G b=some q):∀(v:V) (x:Value),VR ι v x->VR G (V.kill K v) x
 | .b _,_,hx | .i _ _,_,hx | .s _,_,hx | .pn,_,hx | .sn,_,hx | .nf,_,hx | .ni,_,hx | .ai _ _ _,_,hx | .unk,_,hx=>by simpa only [V.kill,VR] using hx
 | .p c o,x,hx=>by
  simp only [VR] at hx;obtain ⟨q,C,rfl⟩:=hx;simp only [V.kill];cases hc:isIn K c with
  | true=>simp [VR,Value.cells,Value.oneCell']
  | false=>simp only [ah,VR];exact ⟨q,h c hc _ C,rfl⟩
 | .mp c,x,hx=>by
  simp only [VR] at hx;obtain ⟨q,C,rfl⟩:=hx;simp only [V.kill];cases hc:isIn K c with
  | true=>simp [VR,Value.cells,Value.oneCell']
  | false=>simp only [ah,VR];exact ⟨q,h c hc _ C,rfl⟩
 | .pr z c j o,x,hx=>by
  simp only [VR] at hx;obtain ⟨q,C,rfl⟩:=hx;simp only [V.kill];cases hc:isIn K c with
  | true=>simp [VR,Value.cells,Value.oneCell']
  | false=>simp only [ah,VR];exact ⟨q,h c hc _ C,rfl⟩
 | .sl c o n m,x,hx=>by
  simp only [VR] at hx;obtain ⟨q,cp,C,E,O,rfl⟩:=hx;simp only [V.kill];cases hc:isIn K c with
  | true=>simp [VR,Value.cells,Value.oneCell']
  | false=>simp only [ah,VR];exact ⟨q,cp,h c hc _ C,E,O,rfl⟩
 | .ws c,x,hx=>by
  simp only [VR] at hx;simp only [V.kill];cases hc:isIn K c with
  | true=>rcases hx with ⟨q,C,rfl⟩ | ⟨C,J,rfl⟩<;>simp [VR,Value.cells,Value.oneCell']
  | false=>
   simp only [ah,VR];rcases hx with ⟨q,C,rfl⟩ | ⟨C,J,rfl⟩
   ·exact .inl ⟨q,h c hc _ C,rfl⟩
   ·exact .inr ⟨h c hc _ C,J,rfl⟩
 | .rs z c j n _,x,hx=>by
  simp only [VR] at hx;simp only [V.kill];cases hc:isIn K c with
  | true=>rcases hx with ⟨q,cp,o,C,E,O,rfl⟩ | ⟨C,E,J,rfl⟩<;>simp [VR,Value.cells,Value.oneCell']
  | false=>
   simp only [ah,VR];rcases hx with ⟨q,cp,o,C,E,O,rfl⟩ | ⟨C,E,J,rfl⟩
   ·exact .inl ⟨q,cp,o,h c hc _ C,E,O,rfl⟩
   ·exact .inr ⟨h c hc _ C,E,J,rfl⟩
 | .fn f cap,x,hx=>by
  simp only [V.kill,VR] at hx ⊢;obtain ⟨F,C,E⟩:=hx;exact ⟨F,C,VRs.kill h _ _ E⟩
 | .it t v,x,hx=>by
  simp only [V.kill,VR] at hx ⊢;obtain ⟨y,C,E⟩:=hx;exact ⟨y,C,VR.kill h _ _ E⟩
 | .ag l,x,hx=>by
  simp only [V.kill,VR] at hx ⊢;obtain ⟨F,C,E⟩:=hx;exact ⟨F,C,VRs.kill h _ _ E⟩
 | .tp l,x,hx=>by
  simp only [V.kill,VR] at hx ⊢;obtain ⟨F,C,E⟩:=hx;exact ⟨F,C,VRs.kill h _ _ E⟩
theorem VRs.kill {ι C:Inj} {K:List Nat} (h:∀b,isIn K b=false->∀q,ι b=some q->C b=some q):∀(l:List V) (E:List Value),VRs ι l E->VRs C (V.kills K l) E
 | [],_,hx=>by simpa [V.kills,VRs] using hx
 | v::l,E,hx=>by
  simp only [V.kills,VRs] at hx ⊢;obtain ⟨y,F,G,J,O⟩:=hx;exact ⟨y,F,G,VR.kill h _ _ J,VRs.kill h _ _ O⟩
end
theorem BR.kill {ι E:Inj} {K:List Nat} (h:∀b,isIn K b=false->∀q,ι b=some q->E b=some q) {q:Rf}:∀{blk:Blk} {o:Obj},BR ι q blk o->BR E q (blk.kill K) o
 | .dead,_,_=>trivial
 | .rows t l,o,C=>C
 | .cells l,o,C=>by
  obtain ⟨F,e,fr,G,J,O⟩:=C;exact ⟨F,e,fr,G,VRs.kill h _ _ J,O⟩
 | .ints k n l,o,C=>C
 | .iter s pos,o,C=>C
 | .mp k l,o,C=>C
theorem tQ (K:List Nat):∀(T:List (Nat×Option V)) (t:Nat),look (uG K T) t=(look T t).map (Option.map (V.kill K))
 | [],t=>rfl
 | (u,none)::T,t=>by
  simp only [uG,aR,tQ K T];split<;>rfl
 | (u,some v)::T,t=>by
  simp only [uG,aR,tQ K T];split<;>rfl
theorem ud (K:List Nat):∀(H:List (Nat×Blk)) (b:Nat),look (Af K H) b=(look H b).map (Blk.kill K)
 | [],t=>rfl
 | (u,v)::T,t=>by
  simp only [Af,aR,ud K T];split<;>rfl
theorem TR.kill {ι C:Inj} {K:List Nat} (h:∀b,isIn K b=false->∀q,ι b=some q->C b=some q) {T:List (Nat×Option V)} {G:Array Value} (O:TR ι T G):TR C (uG K T) G:=by
 intro t v E;rw [tQ] at E;cases F:look T t with
 | none=>simp [F] at E
 | some o=>
  cases o with
  | none=>simp [F] at E
  | some u=>
   simp only [F,eo,ak] at E;subst E;obtain ⟨x,J,Q⟩:=O t u F;exact ⟨x,J,VR.kill h _ _ Q⟩
mutual
theorem V.kill_nil:∀v:V,V.kill [] v=v
 | .b _ | .i _ _ | .s _ | .pn | .sn | .nf | .ni | .ai _ _ _ | .unk | .p _ _ | .pr _ _ _ _ | .sl _ _ _ _ | .ws _ | .rs _ _ _ _ _ | .mp _=>rfl
 | .fn f l | .ag l | .tp l=>by simp only [V.kill,V.kills_nil l]
 | .it t v=>by simp only [V.kill,V.kill_nil v]
theorem V.kills_nil:∀l:List V,V.kills [] l=l
 | []=>rfl
 | v::l=>by simp only [V.kills,V.kill_nil v,V.kills_nil l]
end
theorem tc:∀H:List (Nat×Blk),Af [] H=H
 | []=>rfl
 | (b,x)::H=>by
  simp only [Af,tc H];cases x<;>simp only [Blk.kill,V.kills_nil]
theorem wk:∀T:List (Nat×Option V),uG [] T=T
 | []=>rfl
 | (b,none)::T=>by simp only [uG,wk T]
 | (b,some x)::T=>by simp only [uG,wk T,V.kill_nil]
theorem St.kill_eq (K:List Nat) (s:St):s.kill K={ T:=uG K s.T,H:=Af K s.H,nb:=s.nb,lo:=s.lo,ro:=s.ro,rb:=s.rb }:=by
 cases K with
 | nil=>simp only [St.kill,wk,tc]
 | cons b K=>rfl
def Vg (P:Program) (f:Nat) (args:List V) (r:CR):Prop:=
 r.pan=false/\r.wr=[]/\r.grow=0/\r.kill=[]/\∀(ι:Inj) (w:World) (a:Array Value),VRs ι args a.toList->∃x,(callFunc f a).run P w=.ok (.value x) w/\VR ι r.val x
def GoOK (P:Program) (f:Nat) (args:List V) (H:List (Nat×Blk)) (fr:Nat) (r:CR):Prop:=(jE P f/\FC P f args H fr r)\/Vg P f args r
def fp (P:Program) (x:Ent):Prop:=
 ∀(α:Type) (args:List V) (H:List (Nat×Blk)) (fr:Nat) (k:CR->Option α) (z:α),x.e α args H fr k=some z->
  ∃r,k r=some z/\∀a,(∀b∈r.rd,look a b=look H b)->GoOK P x.f args a fr r
theorem uX {α:Type} {f:Nat} {args:List V} {H:List (Nat×Blk)} {fr:Nat} {k:CR->Option α} {z:α}:∀{E:List Ent},(∀x∈E,fp P x)->Hy α f args H fr k E=some z->
  ∃r,k r=some z/\∀d,(∀b∈r.rd,look d b=look H b)->GoOK P f args d fr r
 | [],_,h=>by simp [Hy] at h
 | x::E,c,h=>by
  simp only [Hy] at h;cases a:Nat.beq x.f f with
  | true=>
   rw [a] at h;have e:=bB a;subst e;exact c x (by simp) α args H fr k z h
  | false=>
   rw [a] at h;exact uX (λy hy=>c y (eO _ hy)) h
def ExR (ι:Inj):Ex->Exit->Prop
 | .normal,e=>e=.normal
 | .exit id,e=>e=.exit id
 | .ret,e=>e=.ret
 | .pan v,e=>∃x,e=.panic [{ v:=x,recovered:=false }]/\VR ι v x
def Post (n:Nat) (ι0:Inj) (w0:Base) (b:Ex->St->Prop):Exit->Act->World->Prop:=
 λe a w=>∃ex s ι,ExR ι ex e/\Inv n ι0 w0 ι s a w/\b ex s
def SemC (P:Program) (n:Nat) (c:Code) (s:St) (b:Ex->St->Prop):Prop:=
 ∀(ι0:Inj) (w0:Base) (ι:Inj) (a:Act) (w:World),Inv n ι0 w0 ι s a w->c.wp P (Post n ι0 w0 b) a w
def i6 (P:Program) (n:Nat) (L:List Sub):AC->Prop
 | .seq a b | .cond _ a b=>i6 P n L a/\i6 P n L b
 | .block _ a | .scope a | .loop a=>i6 P n L a
 | .sub m c=>∀(α:Type) (s:St) (k:Ex->St->Option α) (z:α),Ht α m s k L=some z->SemC P n c.code s λex s'=>k ex s'=some z
 | _=>True
theorem Fr.trans {ι0 O:Inj} {w0 w w':World} (h:Fr ι0 w0 w) (U:∀b q,O b=some (some q)->(∃G,ι0 b=some (some G)/\G.r=q.r)\/w0.heap.size<=q.r) (C:Fr O w w'):Fr ι0 w0 w':=by
 refine ⟨C.os.trans h.os,C.tape.trans h.tape,C.output.trans h.output,rV h.size C.size,λk F E=>?_⟩;rw [C.blk k (qb F h.size) ?_,h.blk k F E];intro b q W;rcases U b q W with ⟨G,J,Q⟩ | J
 ·rw [<-Q];exact E b G J
 ·omega
theorem md (a:Act) (d:Option Nat) (v:Value):(a.put d v).tmps.size=a.tmps.size:=by
 cases d<;>simp [Act.put]
theorem iE (a:Act) (d:Option Nat) (v:Value):(a.put d v).defers=a.defers:=by
 cases d<;>rfl
theorem TR.app {ι:Inj} {s:St} {a:Act} {n:Nat} {d:Option Nat} {v:Option V} {x:Value} {wr:List (Nat×Blk)} {nb:Nat} (C:TR ι s.T a.tmps) (hs:a.tmps.size=n) (F:uh n d=true)
  (E:∀u,v=some u->VR ι u x):TR ι (s.app d v wr nb).T (a.put d x).tmps:=by
 cases d with
 | none=>exact C
 | some d=>exact C.put (by rw [hs];exact aE F) E
theorem Inv.drawn {n:Nat} {ι0 ι:Inj} {w0:Base} {s:St} {a:Act} {w:World} (h:Inv n ι0 w0 ι s a w) (m:Nat):Inv n ι0 w0 ι s a { w with drawn:=m }:=
 ⟨h.size,h.defers,h.tmps,h.mem.draws m,h.ext,h.new,h.fr.draws m,h.low,h.fz,h.gl⟩
theorem Fe {n fr:Nat} {ι0 ι:Inj} {w0:Base} {s:St} {o:Oper} {a:Act} {w:World} {e:Eff} (f:Inv n ι0 w0 ι s a w) (H:ι fr=none) (E:uh n o.dst=true)
  (h:fR P ι fr o a w e) (v:e.new=false->∀G,e.wr=some G->s.ro<=G.1) {next:Act->World->Prop} {Q:Exit->Act->World->Prop}
  (D:∀g J w',(∀b,b≠fr->g b=ι b)->(e.new=false\/e.wr=none->g fr=ι fr)->
   Inv n ι0 w0 g (s.app o.dst e.val e.wr.toList (if e.new=true/\e.wr≠none then max s.nb (fr+1) else s.nb)) J w'->next J w'):
  o.wp P a w next Q:=by
 have fin:∀{x:Next} {w':World} {g:Inj},(execOp a.eval o).run P w=.ok x w'->NextR g e.val x->(∀y,(∀u,e.val=some u->VR g u y)->next (a.put o.dst y) w')->o.wp P a w next Q:=by
  intro x w' g z hx hy;unfold Oper.wp;rw [z];cases hx with
  | skip F=>exact hy _ (λu I=>by rw [F] at I;cases I)
  | value x F=>exact hy _ F
 unfold fR at h;split at h
 ·rename_i k;obtain ⟨x,t,l⟩:=h;refine fin t l λy hy=>D ι _ _ (λ_ _=>rfl) (λ_=>rfl) ?_;rw [k];simp only [ne_eq,ue,and_false,aC];exact ⟨by rw [md];exact f.size,by rw [iE];exact f.defers,f.tmps.app f.size E hy,f.mem,f.ext,f.new,f.fr,f.low,f.fz,f.gl⟩
 ·rename_i b blk k;split at h
  ·rename_i i;obtain ⟨r,t,L⟩:=h;have m:r.fz=false:=by
    cases hc:r.fz with
    | false=>rfl
    | true=>have:=f.fz b r t hc;have:=v i _ k;simp only at this;omega
   obtain ⟨ob,x,l,A,C⟩:=L m;refine fin l C λy hy=>D ι _ _ (λ_ _=>rfl) (λ_=>rfl) ?_;rw [k,i];simp only [bA,false_and,aC];refine ⟨by rw [md];exact f.size,by rw [iE];exact f.defers,f.tmps.app f.size E hy,f.mem.write t m A,f.ext,f.new,?_,f.low,f.fz,f.gl⟩;exact f.fr.write ((f.new b r t).imp (λ⟨M,h,z⟩=>⟨b,M,CJ h (v i _ k),z⟩) id) _
  ·rename_i i;obtain ⟨rfl,d,q,ob,x,l,K,B,A,C⟩:=h;have j:=pw (r:=some q) H;refine fin l C λy hy=>D (upd ι b (some q)) _ _ (λc hc=>by simp [upd,hc]) (λhc=>by rw [i,k] at hc;simp at hc) ?_;rw [k,i];simp only [ne_eq,reduceCtorEq,Eb,and_self,aK]
   refine ⟨by rw [md];exact f.size,by rw [iE];exact f.defers,(f.tmps.mono j).app f.size E hy,(f.mem.draws d).alloc H (by simp only [St.app];omega) (by simp only [St.app];omega) K A,λc q hc=>(f.ext c q hc).imp (j _ _) id,λc q hc=>?_,(f.fr.draws d).alloc ob,f.low,λc p hc hp=>by
    unfold upd at hc;split at hc
    ·simp only [ak] at hc;subst hc;rw [B] at hp;cases hp
    ·exact f.fz c p hc hp,f.gl⟩
   unfold upd at hc;split at hc
   ·simp only [ak] at hc;subst hc;exact .inr (by rw [K];exact f.fr.size)
   ·exact f.new c q hc
theorem Inv.phantom' {n:Nat} {ι0 ι:Inj} {w0:Base} {s:St} {a:Act} {w:World} (E:Inv n ι0 w0 ι s a w) {g:Nat} (Y:ι g=none) {nb:Nat} (Q:s.nb<=nb) (hg:g<nb) (tr:List Lf):
  Inv n ι0 w0 (upd ι g none) { T:=s.T,H:=(g,.rows tr [])::s.H,nb:=nb,lo:=s.lo,ro:=s.ro,rb:=s.rb } a w:=by
 have G:=pw (r:=none) Y;have F:∀b,b≠g->upd ι g none b=ι b:=λb J=>by simp [upd,J]
 have C:∀b q,upd ι g none b=some (some q)->ι b=some (some q):=by
  intro b q h;by_cases J:b=g
  ·subst J;rw [dk] at h;cases h
  ·rwa [F b J] at h
 refine ⟨E.size,E.defers,E.tmps.mono G,⟨λb b' q Z W X=>E.mem.inj b b' q Z (C _ _ W) (C _ _ X),λb q e=>?_,λb q e=>E.mem.dom b q (C _ _ e),λb y O hd=>?_⟩,
  λb q e=>(E.ext b q e).imp (G _ _) id,λb q e=>E.new b q (C _ _ e),E.fr,E.low,λb q e=>E.fz b q (C _ _ e),E.gl⟩
 ·by_cases J:b=g
  ·subst J;exact hg
  ·rw [F b J] at e;exact qb (E.mem.low b q e) Q
 ·rw [aR] at O;split at O
  ·rename_i e;subst e;simp only [ak] at O;subst O;exact .inr ⟨dk _ _ _,tr,rfl⟩
  ·rename_i U;exact (E.mem.blk b y O hd).map (F b (λe=>U e.symm)) (λ_ _=>rfl) (λ_ _ h=>BR.mono G h) (λ_ h=>h)
theorem Inv.setnb {n:Nat} {ι0 ι:Inj} {w0:Base} {s:St} {a:Act} {w:World} (C:Inv n ι0 w0 ι s a w) {nb:Nat} (h:s.nb<=nb):
  Inv n ι0 w0 ι { T:=s.T,H:=s.H,nb:=nb,lo:=s.lo,ro:=s.ro,rb:=s.rb } a w:=
 ⟨C.size,C.defers,C.tmps,⟨C.mem.inj,λb q e=>qb (C.mem.low b q e) h,C.mem.dom,C.mem.blk⟩,C.ext,C.new,C.fr,C.low,C.fz,C.gl⟩
theorem OF {ι:Inj} {g:Nat} (a:ι g=some none) {x:Value} (h:VR ι .sn x):VR ι (.ws g) x:=by
 simp only [VR] at h ⊢;exact .inr ⟨a,none,h⟩
theorem AE:∀(ns:List (Nat×List Lf)) (g:Nat) (l:List V) (acc:List (Nat×Blk)) (o:List V) (H:List (Nat×Blk)),nilL g ns l acc=(o,H)->∃k,H=k++acc/\
  ∀{n:Nat} {ι0 ι:Inj} {w0:Base} {s:St} {a:Act} {w:World},Inv n ι0 w0 ι s a w->(∀b,g<=b->b<g+k.length->ι b=none)->∀nb,s.nb<=nb->(k=[]\/g+k.length<=nb)->
   ∃c,(∀b,(b<g\/g+k.length<=b)->c b=ι b)/\(∀b q,ι b=some q->c b=some q)/\(∀m,VRs c l m->VRs c o m)/\
    Inv n ι0 w0 c { T:=s.T,H:=k++s.H,nb:=nb,lo:=s.lo,ro:=s.ro,rb:=s.rb } a w
 | [],g,l,acc,o,H,h=>by
  simp only [nilL,bE] at h;obtain ⟨rfl,rfl⟩:=h;exact ⟨[],rfl,λ{n ι0 ι w0 s a w} y d nb z u=>⟨ι,λ_ _=>rfl,λ_ _ h=>h,λ_ h=>h,y.setnb z⟩⟩
 | (i,tr)::r,g,l,acc,o,H,h=>by
  simp only [nilL] at h;split at h
  ·rename_i hi;obtain ⟨v,rfl,F⟩:=AE r (g+1) _ _ _ _ h;refine ⟨v++[(g,.rows tr [])],by simp,λ{n ι0 ι w0 s a w} y d nb z u=>?_⟩;have t:(v++[((g,.rows tr []):Nat×Blk)]).length=v.length+1:=by simp
   rw [t] at d u ⊢;have u:g+(v.length+1)<=nb:=u.resolve_left (by simp);have C:=d g (aP _) (by omega);have p:=pw (r:=none) C
   obtain ⟨c,k1,k2,D,k4⟩:=F (y.phantom' C z (by omega) tr) (λb G I=>by
    have:upd ι g none b=ι b:=by simp [upd,show b≠g by omega]
    rw [this];exact d b (by omega) (by omega)) nb (aP _) (.inr (by omega))
   refine ⟨c,λb B=>?_,λb q B=>k2 b q (p b q B),λm hx=>D m ?_,by simpa using k4⟩
   ·rw [k1 b (by omega)];simp [upd,show b≠g by omega]
   ·obtain ⟨x,f,A⟩:=hx.get hi;have:=hx.set i (OF (g:=g) (k2 _ _ (dk _ _ _)) A);rwa [show m.set i x=m from by
     apply Bg;intro j;rw [List.getElem?_set];split
     ·rename_i e;subst e;split
      ·exact f.symm
      ·rename_i E;rw [fW (by omega)] at f;cases f
     ·rfl] at this
  ·exact AE r g l acc o H h
theorem Qa {α:Type} (l m:List (Nat×α)) (n:Nat):look (l++m) n=(look l n).or (look m n):=by
 induction l with
 | nil=>rfl
 | cons x l ih=>
  obtain ⟨k,v⟩:=x;rw [ep,aR,aR,ih];split<;>rfl
theorem Inv.reH {n:Nat} {ι0 ι:Inj} {w0:Base} {T:List (Nat×Option V)} {A B:List (Nat×Blk)} {b nb lo ro rb:Nat} {l O:List V} {a:Act} {w:World}
  (E:Inv n ι0 w0 ι ⟨T,A++(b,.cells l)::B,nb,lo,ro,rb⟩ a w) (h:∀G,VRs ι l G->VRs ι O G):Inv n ι0 w0 ι ⟨T,A++(b,.cells O)::B,nb,lo,ro,rb⟩ a w:=by
 refine ⟨E.size,E.defers,E.tmps,⟨E.mem.inj,E.mem.low,E.mem.dom,λc y hc J=>?_⟩,E.ext,E.new,E.fr,E.low,E.fz,E.gl⟩;have C:=E.mem.blk c;rw [Qa,aR] at hc C;cases Q:look A c with
 | some z=>rw [Q] at hc C;exact C y hc J
 | none=>
  rw [Q] at hc C;simp only [Eo] at hc C;split at hc
  ·rename_i e;rw [ae e] at C;simp only [ak] at hc;subst hc;rcases C _ rfl (by simp) with ⟨q,o,X,F,h3⟩ | ⟨_,t,F⟩
   ·obtain ⟨U,Y,fr,W,g2,Z⟩:=h3;exact .inl ⟨q,o,X,F,U,Y,fr,W,h _ g2,Z⟩
   ·cases F
  ·rename_i e;rw [ab e] at C;exact C y hc J
theorem Inv.reT {n:Nat} {ι0 ι:Inj} {w0:Base} {s:St} {wr:List (Nat×Blk)} {d:Option Nat} {nb:Nat} {v G:V} {a:Act} {w:World}
  (E:Inv n ι0 w0 ι (s.app d (some v) wr nb) a w) (h:∀x,VR ι v x->VR ι G x):Inv n ι0 w0 ι (s.app d (some G) wr nb) a w:=by
 refine ⟨E.size,E.defers,?_,E.mem,E.ext,E.new,E.fr,E.low,E.fz,E.gl⟩;have J:=E.tmps;cases d with
 | none=>exact J
 | some d=>
  intro t u F;have C:=J t;simp only [St.app,aR] at F C;split at F
  ·rename_i e;rw [ae e] at C;simp only [ak] at F;subst F;obtain ⟨x,O,Q⟩:=C v rfl;exact ⟨x,O,h x Q⟩
  ·rename_i e;rw [ab e] at C;exact C u F
theorem QQ {P:Program} {t:TypeId} {g:Nat} {v o:V} {f:List (Nat×Blk)} (h:nilV P t g v=(o,f)) {n:Nat} {ι0 ι:Inj} {w0:Base} {s:St} {d:Option Nat} {nb0:Nat} {a:Act} {w:World}
  (p:Inv n ι0 w0 ι (s.app d (some v) [] nb0) a w) (k:∀b,g<=b->b<g+f.length->ι b=none) {nb:Nat} (q:nb0<=nb) (m:f=[]\/g+f.length<=nb):
  ∃c,(∀b,(b<g\/g+f.length<=b)->c b=ι b)/\Inv n ι0 w0 c (s.app d (some o) f nb) a w:=by
 have j:(v,([]:List (Nat×Blk)))=(o,f)->∃c,(∀b,(b<g\/g+f.length<=b)->c b=ι b)/\Inv n ι0 w0 c (s.app d (some o) f nb) a w:=by
  intro e;simp only [bE] at e;obtain ⟨rfl,rfl⟩:=e;exact ⟨ι,λ_ _=>rfl,p.setnb q⟩
 unfold nilV at h;split at h
 ·split at h
  ·rename_i i tr r H;simp only [bE] at h;obtain ⟨rfl,rfl⟩:=h;have D:=k g (aP _) (by simp);have m:g+1<=nb:=by simpa using m
   have:=p.phantom' D q m tr;exact ⟨upd ι g none,λb B=>by simp only [List.length_singleton] at B;simp [upd,show b≠g by omega],Inv.reT (s:=s) (wr:=[(g,.rows tr [])]) (v:=.sn) this λx hx=>OF (dk _ _ _) hx⟩
  ·exact j h
 ·rename_i l;split at h;rename_i G y C;simp only [bE] at h;obtain ⟨rfl,rfl⟩:=h;obtain ⟨I,e,F⟩:=AE _ _ _ _ _ _ C;rw [lL] at e;subst e;obtain ⟨c,k1,k2,z,k4⟩:=F p k nb q m;refine ⟨c,k1,Inv.reT (s:=s) (wr:=y) (v:=.ag l) k4 λx hx=>?_⟩;simp only [VR] at hx ⊢;obtain ⟨u,A,E⟩:=hx;exact ⟨u,A,z _ E⟩
 ·exact j h
theorem PP (nb fr:Nat):∀g,g=0\/fr+g<=nbOf nb fr g
 | 0=>.inl rfl
 | _+1=>.inr (Nat.le_max_right _ _)
theorem xd {P:Program} {fr:Nat} {o:Oper} {e:Eff} {v:Option V} {wr:List (Nat×Blk)} {g:Nat} (h:xR P fr o e=(v,wr,g)) (c:g=0):e.new=false\/e.wr=none:=by
 unfold xR at h;split at h
 ·rename_i b;exact .inr b
 ·split at h
  ·rename_i a;exact .inl a
  ·split at h
   ·split at h;simp only [bE] at h;omega
   ·simp only [bE] at h;omega
theorem JK {P:Program} {fr nb:Nat} {o:Oper} {e:Eff} {v:Option V} {wr:List (Nat×Blk)} {g:Nat} (h:xR P fr o e=(v,wr,g)):
  (if e.new=true/\e.wr≠none then max nb (fr+1) else nb)<=nbOf nb fr g:=by
 cases g with
 | zero=>
  have:=xd h rfl;rw [ab (λhc=>by rcases this with h | h;rw [h] at hc;cases hc.1;exact hc.2 h)];exact aP _
 | succ g=>
  simp only [nbOf];split<;>omega
theorem fR.new_eq {ι:Inj} {f:Nat} {o:Oper} {a:Act} {w:World} {e:Eff} (h:fR P ι f o a w e) {C:Nat×Blk} (F:e.wr=some C) (E:e.new=true):C.1=f:=by
 unfold fR at h;rw [F] at h;simp only [E] at h;exact h.1
theorem A4 {P:Program} {fr:Nat} {o:Oper} {e:Eff} {v:Option V} {wr:List (Nat×Blk)} {g:Nat} (h:xR P fr o e=(v,wr,g)) {n:Nat} {ι0 ι:Inj} {w0:Base} {s:St} {nb0 nb:Nat} {a:Act} {w:World}
  (j:Inv n ι0 w0 ι (s.app o.dst e.val e.wr.toList nb0) a w) (r:∀b,fr<=b->b<fr+g->(b=fr->e.wr=none)->ι b=none) (I:∀m,e.wr=some m->e.new=true->m.1=fr) (y:nb0<=nb) (C:g=0\/fr+g<=nb):
  ∃f,(∀b,(b<fr\/fr+g<=b)->f b=ι b)/\Inv n ι0 w0 f (s.app o.dst v wr nb) a w:=by
 have i:(e.val,e.wr.toList)=(v,wr)->∃f,(∀b,(b<fr\/fr+g<=b)->f b=ι b)/\Inv n ι0 w0 f (s.app o.dst v wr nb) a w:=by
  intro e;simp only [bE] at e;obtain ⟨rfl,rfl⟩:=e;exact ⟨ι,λ_ _=>rfl,j.setnb y⟩
 unfold xR at h;split at h
 ·rename_i k;rw [k] at j i;split at h
  ·rename_i t u Q G;split at h;rename_i N H K;simp only [bE] at h;obtain ⟨rfl,rfl,rfl⟩:=h;rw [G] at j;obtain ⟨f,k1,k2⟩:=QQ K (d:=o.dst) (s:=s) j (λb x E=>r b x E λ_=>k) y (C.imp (λh=>sQ h) id);exact ⟨f,k1,k2⟩
  ·simp only [bE] at h;exact i (by simp [h.1,h.2.1])
 ·rename_i m k;rw [k] at i;split at h
  ·simp only [bE] at h;exact i (by simp [h.1,h.2.1])
  ·rename_i z;split at h
   ·rename_i t l R p;split at h;rename_i M H J;simp only [bE] at h;obtain ⟨rfl,rfl,rfl⟩:=h;obtain ⟨S,D,L⟩:=AE _ _ _ _ _ _ J;rw [lL] at D;subst D;rw [k] at j;have x:=I m k z;obtain ⟨b,blk⟩:=m;simp only at p x;subst p x;obtain ⟨f,k1,k2,F,k4⟩:=L j (λc O T=>r c (by omega) (by omega) (λq=>by omega)) nb y (C.elim (λh=>by omega) λh=>.inr (by omega));refine ⟨f,λc hc=>k1 c (by omega),?_⟩;have:=Inv.reH (A:=H) (B:=s.H) (b:=b) k4 F;simpa [St.app] using this
   ·simp only [bE] at h;exact i (by simp [h.1,h.2.1])
theorem OL {ι:Inj} {T:List (Nat×Option V)} {a:Act} (c:TR ι T a.tmps) {g:Operand} {f:Nat} {cap:List V} (h:opd T g=some (.fn f cap)):
  ∃b:Array Value,a.eval g=fnV f b/\VRs ι cap b.toList:=by
 have:=bg c h;simpa only [VR] using this
theorem ye {wr:List (Nat×Blk)} {ι:Inj} {b:Nat} {r:Option Rf} (h:uw wr ι b=some r):∃x∈wr,x.1=b:=by
 unfold uw at h;split at h
 ·rename_i a;obtain ⟨x,hx,c⟩:=uz.1 a;exact ⟨x,hx,bB c⟩
 ·cases h
theorem Bf (wr:List (Nat×Blk)) (ι:Inj):∀b r,uw wr ι b=some r->ι b=some r:=by
 intro b r h;unfold uw at h;split at h
 ·exact h
 ·cases h
theorem NA {K f:Nat} {ι:Inj} {o:Oper} {a:Act} {g:Operand} {args:Array Operand} {d:Array TypeId} {c:Array Value} {cap l:List V} (e:o.op=.call ⟨.value g,args,d⟩)
  (b:a.eval g=fnW K f c) (h:VRs ι cap c.toList) (i:VRs ι l (args.toList.map a.eval)) (w:World):
  ∃as:Array Value,VRs ι (fnAW K f l cap) as.toList/\(execOp a.eval o).run P w=(callFunc (fnFW K f) as).run P w:=by
 unfold fnAW fnFW;unfold fnW at b;cases j:Nat.blt f K<;>rw [j] at b<;>simp only at b ⊢
 ·refine ⟨c++args.map a.eval,by simpa using h.append i,?_⟩;simp only [execOp,e,resolve,b,Deferred.ofValue,Array.append_empty,aw,aB,ay,invoke]
 ·refine ⟨args.map a.eval++c,by simpa using i.append h,?_⟩;simp only [execOp,e,resolve,b,Deferred.ofValue,Array.empty_append,aw,aB,ay,invoke]
theorem ze {n fr:Nat} {ι0 ι:Inj} {w0:Base} {s:St} {o:Oper} {a:Act} {w:World} {g:Operand} {args:Array Operand} {tys:Array TypeId} {f:Nat} {cap l:List V} {r:CR}
  (ho:o.op=.call ⟨.value g,args,tys⟩) (d:Inv n ι0 w0 ι s a w) (K:∀b,fr<=b->b<fr+r.grow->ι b=none) (hd:uh n o.dst=true)
  (hg:opd s.T g=some (.fn f cap)) (hl:opds (opd s.T) args.toList=some l) (B:r.wr.all (λx=>Nat.ble s.ro x.1)=true)
  (C:r.kill.all (λb=>Nat.ble s.rb b)=true) (hc:GoOK P (fnF f) (fnA f l cap) s.H fr r)
  {next:Act->World->Prop} {Q:Exit->Act->World->Prop}
  (U:r.pan=false->∀i a' w',(∀b,isIn r.kill b=false->(b<fr\/fr+r.grow<=b)->i b=ι b)->Inv n ι0 w0 i ((s.kill r.kill).app o.dst (some r.val) r.wr (max s.nb (fr+r.grow))) a' w'->next a' w')
  (hp:r.pan=true->∀i x w',VR i r.val x->Inv n ι0 w0 i ((s.kill r.kill).app none none r.wr (max s.nb (fr+r.grow))) a w'->Q (.panic [{ v:=x,recovered:=false }]) a w'):
  o.wp P a w next Q:=by
 obtain ⟨cs,R,h2⟩:=OL d.tmps hg;have h3:=vw d.tmps hl;obtain ⟨as,J,y⟩:=NA (P:=P) ho (show a.eval g=fnW 1000000 f cs from R) h2 h3 w;rcases hc with ⟨hE,hc⟩ | ⟨a1,a2,a3,a4,G⟩
 case inr=>
  obtain ⟨x,A,hx⟩:=G ι w as J;have k:(execOp a.eval o).run P w=.ok (.value x) w:=by rw [y];exact A
  unfold Oper.wp;rw [k];refine U a1 ι _ _ (λ_ _ _=>rfl) ?_;rw [a2,a3,a4,cn];refine ⟨by rw [md];exact d.size,by rw [iE];exact d.defers,TR.app (s:=s) d.tmps d.size hd (λu S=>by cases S;exact hx),?_,d.ext,d.new,d.fr,d.low,d.fz,d.gl⟩;exact ⟨d.mem.inj,λb q F=>qb (d.mem.low b q F) (Ef _ _),d.mem.dom,d.mem.blk⟩
 have k:(execOp a.eval o).run P w=.ok (.enter (fnF f) as) w:=by rw [y];exact hE _ _
 unfold Oper.wp;rw [k];simp only [Oper.upon];refine (hc ι s.nb w as d.mem (d.glHere λb q j=>by
  obtain ⟨x,hx,rfl⟩:=ye j;exact ⟨Bf r.wr ι x.1 _ j,aE (co.1 B x hx)⟩) (λx hx q F=>by
  cases hc:q.fz with
  | false=>rfl
  | true=>have:=d.fz x.1 q F hc;have:=aE (co.1 B x hx);omega) (λb hb1 hb2=>K b hb1 (by omega)) J).mono λe w' h=>?_
 obtain ⟨i,M,g0,g2,g6,g3,g4,g5⟩:=h;have I:∀b q,i b=some (some q)->q.fz=true->b<s.ro:=λb q j F=>d.fz b q (g6 b q j F) F;have L:∀b,isIn r.kill b=true->s.rb<=b:=by
  intro b j;obtain ⟨c,W,N⟩:=uz.1 j;rw [bB N];exact aE (co.1 C c W)
 have p:∀b,isIn r.kill b=false->∀q,ι b=some q->i b=some q:=by
  intro b D q j;rw [M b D ?_];exact j;rcases aF b fr with h | h
  ·exact .inl h
  ·rcases aF b (fr+r.grow) with h' | h'
   ·have:=K b h (by omega);rw [this] at j;cases j
   ·exact .inr h'
 have m:∀b q,ι0 b=some q->i b=some q\/s.rb<=b:=by
  intro b q j;rcases d.ext b q j with h | h
  ·cases D:isIn r.kill b with
   | true=>exact .inr (L b D)
   | false=>exact .inl (p b D q h)
  ·exact .inr h
 have t:∀b q,i b=some (some q)->(∃E,ι0 b=some (some E)/\E.r=q.r)\/w0.w.heap.size<=q.r:=by
  intro b q j;cases D:isIn r.kill b with
  | true=>
   rcases g0 b q D j with ⟨E,O,h7⟩ | O
   ·rw [<-h7];exact d.new b E O
   ·exact .inr (rV d.fr.size O)
  | false=>
   by_cases X:b<fr\/fr+r.grow<=b
   ·rw [M b D X] at j;exact d.new b q j
   ·have:=g2 b q (by omega) (by omega) j;exact .inr (rV d.fr.size this)
 have z:Fr (roI ι0 s.ro) w0.w w':=d.fr.trans (λb q j=>by
  obtain ⟨x,hx,rfl⟩:=ye j;have R:=aE (co.1 B x hx);exact (d.new x.1 q (Bf r.wr ι x.1 _ j)).imp (λ⟨E,h,hr⟩=>⟨E,CJ h R,hr⟩) id) g4
 have hT:=d.tmps.kill p;rw [St.kill_eq] at U hp;cases e with
 | returned x=>
  obtain ⟨Z,Y⟩:=g5;refine U Z i _ _ M ⟨by rw [md];exact d.size,by rw [iE];exact d.defers,TR.app (s:={ T:=uG r.kill s.T,H:=Af r.kill s.H,nb:=s.nb,lo:=s.lo,ro:=s.ro,rb:=s.rb }) hT d.size hd (λu S=>by cases S;exact Y),g3,m,t,z,d.low,I,d.gl⟩
 | panicked chain=>
  obtain ⟨Z,x,rfl,Y⟩:=g5;exact hp Z i x _ Y ⟨d.size,d.defers,hT,g3,m,t,z,d.low,I,d.gl⟩
 | outgrown=>exact g5.elim
theorem Gt {α:Type} {E:List Ent} (hE:∀x∈E,fp P x) {n fr:Nat} {ι0 ι:Inj} {w0:Base} {s:St} {o:Oper} {a:Act} {w:World} (H:Inv n ι0 w0 ι s a w)
  (D:∀b,fr<=b->b<fr+8->ι b=none) {k:St->List Nat->List (Nat×Blk)->Nat->Option α} {kp:V->St->Option α} {z:α} (h:B5 P E n fr o s k kp=some z)
  {next:Act->World->Prop} {Q:Exit->Act->World->Prop}
  (hn:∀s' rd wr g c p w',k s' rd wr g=some z->(∀b,(b<fr\/fr+g<=b)->c b=ι b)->Inv n ι0 w0 c s' p w'->next p w')
  (hp:∀v s' c x p w',kp v s'=some z->VR c v x->Inv n ι0 w0 c s' p w'->Q (.panic [{ v:=x,recovered:=false }]) p w'):
  o.wp P a w next Q:=by
 have U:ι fr=none:=D fr (aP _) (by omega);unfold B5 at h;split at h
 ·cases h
 rename_i hd;have J:ua P fr o s k=some z->o.wp P a w next Q:=by
  intro h;unfold ua at h;obtain ⟨e,R,K⟩:=HZ H.tmps H.mem U h;split at R;rename_i v wr g A;split at R
  case h_2=>cases R
  rename_i L;simp only [az] at L;have S:=aE L.2;have F:∀O,e.wr=some O->e.new=true->O.1=fr:=λO Z B=>fR.new_eq K Z B;refine Fe H U hd K (λB O Z=>by
   have:=L.1;unfold roOK at this;rw [Z] at this;simp only [B] at this;exact aE this) λc p w' u g2 d=>?_
  obtain ⟨W,k1,k2⟩:=A4 A d (λb T e2 e3=>by
   by_cases i:b=fr
   ·subst i;rw [g2 (.inr (e3 rfl))];exact U
   ·rw [u b i];exact D b T (by omega)) F (nb:=nbOf s.nb fr g) (JK A) (PP s.nb fr g)
  refine hn _ _ _ _ W p w' R (λb X=>?_) k2;rw [k1 b X];by_cases i:b=fr
  ·subst i;refine g2 (xd A (by omega))
  ·exact u b i
 split at h
 ·rename_i cl G;split at h
  ·rename_i g q;split at h
   ·rename_i f cap hg;obtain ⟨l,hl,h⟩:=ar h;obtain ⟨r,I,h3⟩:=uX hE h;split at I
    ·cases I
    rename_i m;simp only [az] at m;have C:r.kill=[]:=by simpa using m.2.2
    have S:=aE m.1;obtain ⟨N,args,tys⟩:=cl;simp only at q;subst q;refine ze G H (λb T e2=>D b T (by omega)) hd hg hl m.2.1 (by rw [C];rfl) (h3 _ λ_ _=>rfl) (λj c p w' u d=>?_) (λj c x w' u d=>?_)
    ·rw [j] at I;rw [C] at u d;exact hn _ _ _ _ c p w' I (λb L=>u b rfl L) d
    ·rw [j] at I;rw [C] at d;exact hp _ _ c x a w' I u d
   ·cases h
  ·exact J h
 ·rename_i x G;split at h
  ·rename_i t v hx;have Y:=bg H.tmps hx;have hv':=Y;simp only [VR] at Y;obtain ⟨y,h6,_⟩:=Y;unfold Oper.wp;have M:(execOp a.eval o).run P w=.halt (.panic (.iface t y)) w:=by
    simp only [execOp,G,h6,Instr.panic,aw,run_goPanic,Result.andThen_halt]
   rw [M];exact hp _ _ ι _ a w h (h6▸hv') H
  ·cases h
 ·exact J h
theorem TR.again {ι:Inj} {T:List (Nat×Option V)} {E:Array Value} (F:TR ι T E) {d:Nat} {v:V} (G:look T d=some (some v)):TR ι ((d,some v)::T) E:=by
 intro t u C;rw [aR] at C;split at C
 ·rename_i e;subst e;simp only [ak] at C;subst C;exact F d v G
 ·exact F t u C
theorem Inv.again {n:Nat} {ι0 ι:Inj} {w0:Base} {s:St} {a:Act} {w:World} (h:Inv n ι0 w0 ι s a w) {d:Nat} {v:V} (C:look s.T d=some (some v)):
  Inv n ι0 w0 ι { s with T:=(d,some v)::s.T } a w:=
 ⟨h.size,h.defers,h.tmps.again C,h.mem,h.ext,h.new,h.fr,h.low,h.fz,h.gl⟩
theorem qT {ops:List Oper} {j d:Nat} (h:gtmp ops j=some d) (a:Array Value):
  yielded ops.toArray a j=match a[d]? with | some (.bool b)=>some b | _=>none:=by
 unfold gtmp at h;split at h
 ·rename_i o c;have:(ops.toArray[j]?).bind (·.dst)=some d:=by simp [c,h]
  unfold yielded;rw [this];rfl
 ·cases h
theorem KX {α:Type} {n:Nat} {ι0 ι:Inj} {w0:Base} {ops:List Oper} {o:Oper} {s:St} {a:Act} {w:World} (f:Inv n ι0 w0 ι s a w) {k:Bool->St->Option α} {z:α}
  (h:vG ops o s k=some z):∃c s',k c s'=some z/\Inv n ι0 w0 ι s' a w/\Region.wanted o (yielded ops.toArray a.tmps)=c/\(∀t,look s'.T t=look s.T t)/\s'.H=s.H/\s'.nb=s.nb:=by
 unfold vG at h;split at h
 ·rename_i g;exact ⟨true,s,h,f,by simp [Region.wanted,g],λ_=>rfl,rfl,rfl⟩
 ·rename_i j c g;split at h
  case h_2=>cases h
  rename_i d m;have hy:=qT m a.tmps;have again:∀x,look s.T d=some (some (.b x))->∀t,look ((d,some (V.b x))::s.T) t=look s.T t:=by
   intro x hx t;rw [aR];split
   ·rename_i e;subst e;exact hx.symm
   ·rfl
  split at h
  ·rename_i x hx;obtain ⟨y,l,i⟩:=f.tmps d _ hx;simp only [VR] at i;subst i;rw [l] at hy;cases x
   ·exact ⟨!c,_,h,f.again hx,by cases c<;>simp [Region.wanted,g,hy],again _ hx,rfl,rfl⟩
   ·exact ⟨c,_,h,f.again hx,by cases c<;>simp [Region.wanted,g,hy],again _ hx,rfl,rfl⟩
  ·rename_i hx;obtain ⟨y,l,i⟩:=f.tmps d _ hx;simp only [VR] at i;obtain ⟨p,rfl,_⟩:=i;rw [l] at hy;exact ⟨false,s,h,f,by simp [Region.wanted,g,hy],λ_=>rfl,rfl,rfl⟩
  ·cases h
theorem MU (ι:Inj):VR ι (.tp []) undef:=by
 simp only [VR];exact ⟨#[],rfl,by simp [VRs]⟩
theorem Inv.skip {n:Nat} {ι0 ι:Inj} {w0:Base} {s:St} {a:Act} {w:World} (h:Inv n ι0 w0 ι s a w) {d:Option Nat} (C:uh n d=true):
  Inv n ι0 w0 ι (s.app d (some (.tp [])) [] s.nb) (a.put d undef) w:=
 ⟨by rw [md];exact h.size,by rw [iE];exact h.defers,h.tmps.app h.size C (λu E=>by cases E;exact MU ι),h.mem,h.ext,h.new,h.fr,h.low,h.fz,h.gl⟩
theorem Inv.fresh {n:Nat} {ι0 ι:Inj} {w0:Base} {s:St} {a:Act} {w:World} (h:Inv n ι0 w0 ι s a w):∀b,s.nb<=b->ι b=none:=by
 intro b C;cases hi:ι b with
 | none=>rfl
 | some r=>have:=h.mem.low b r hi;omega
end Go.Abs
