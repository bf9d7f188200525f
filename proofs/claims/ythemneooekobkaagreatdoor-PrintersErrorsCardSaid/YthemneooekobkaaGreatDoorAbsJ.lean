
/- The interpreter is sound: what it comes to is what the model's code comes to.
   Conditions: none; generic over the program. -/
import Derived.Test.YthemneooekobkaaGreatDoorAbsI
set_option linter.unusedSimpArgs false
set_option linter.unusedVariables false
namespace Go.Abs
variable {P:Program}
def jD (P:Program) (f:Nat):Prop:=∀(args:Array Value) (w:World),(callFunc f args).run P w=.ok (.enter f args) w
def RetR (ι:Inj) (r:CR):Ending->Prop
 | .returned x=>r.pan=false/\VR ι r.val x
 | .panicked a=>r.pan=true/\∃x,a=[{ v:=x,recovered:=false }]/\VR ι r.val x
 | .outgrown=>False
def tj (wr:List (Nat×Blk)) (ι:Inj):Inj:=λb=>if wr.any (λx=>Nat.beq x.1 b) then ι b else none
def Fe (P:Program) (f:Nat) (args:List V) (H:List (Nat×Blk)) (fr:Nat) (r:CR):Prop:=
 ∀(ι:Inj) (nb:Nat) (w:World) (c:Array Value),WR ι H nb w->GL (tj r.wr ι) w->(∀x∈r.wr,∀q,ι x.1=some (some q)->q.fz=false)->(∀b,fr<=b->b<fr+r.grow->ι b=none)->VRs ι args c.toList->
  Calls P f c w λe w'=>∃a:Inj,(∀b,isIn r.kill b=false->(b<fr\/fr+r.grow<=b)->a b=ι b)/\
   (∀b q,isIn r.kill b=true->a b=some (some q)->(∃d,ι b=some (some d)/\d.r=q.r)\/w.heap.size<=q.r)/\(∀b q,fr<=b->b<fr+r.grow->a b=some (some q)->w.heap.size<=q.r)/\(∀b q,a b=some (some q)->q.fz=true->ι b=some (some q))/\
   WR a (r.wr++yC r.kill H) (max nb (fr+r.grow)) w'/\Fr (tj r.wr ι) w w'/\RetR a r e
mutual
theorem VR.kill {ι G:Inj} {K:List Nat} (h:∀b,isIn K b=false->∀q,ι b=some q->G b=some q):∀(v:V) (x:Value),VR ι v x->VR G (V.kill K v) x
 | .b _,_,hx | .i _ _,_,hx | .s _,_,hx | .pn,_,hx | .sn,_,hx | .nf,_,hx | .ni,_,hx | .ai _ _ _,_,hx | .unk,_,hx=>by simpa only [V.kill,VR] using hx
 | .p c o,x,hx=>by
  simp only [VR] at hx;obtain ⟨q,A,rfl⟩:=hx;simp only [V.kill];cases hc:isIn K c with
  | true=>simp [VR,Value.cells,Value.oneCell']
  | false=>simp only [ae,VR];exact ⟨q,h c hc _ A,rfl⟩
 | .mp c,x,hx=>by
  simp only [VR] at hx;obtain ⟨q,A,rfl⟩:=hx;simp only [V.kill];cases hc:isIn K c with
  | true=>simp [VR,Value.cells,Value.oneCell']
  | false=>simp only [ae,VR];exact ⟨q,h c hc _ A,rfl⟩
 | .pr z c j o,x,hx=>by
  simp only [VR] at hx;obtain ⟨q,A,rfl⟩:=hx;simp only [V.kill];cases hc:isIn K c with
  | true=>simp [VR,Value.cells,Value.oneCell']
  | false=>simp only [ae,VR];exact ⟨q,h c hc _ A,rfl⟩
 | .sl c o n m,x,hx=>by
  simp only [VR] at hx;obtain ⟨q,cp,A,C,J,rfl⟩:=hx;simp only [V.kill];cases hc:isIn K c with
  | true=>simp [VR,Value.cells,Value.oneCell']
  | false=>simp only [ae,VR];exact ⟨q,cp,h c hc _ A,C,J,rfl⟩
 | .ws c,x,hx=>by
  simp only [VR] at hx;simp only [V.kill];cases hc:isIn K c with
  | true=>rcases hx with ⟨q,A,rfl⟩ | ⟨A,E,rfl⟩<;>simp [VR,Value.cells,Value.oneCell']
  | false=>
   simp only [ae,VR];rcases hx with ⟨q,A,rfl⟩ | ⟨A,E,rfl⟩
   ·exact .inl ⟨q,h c hc _ A,rfl⟩
   ·exact .inr ⟨h c hc _ A,E,rfl⟩
 | .rs z c j n _,x,hx=>by
  simp only [VR] at hx;simp only [V.kill];cases hc:isIn K c with
  | true=>rcases hx with ⟨q,cp,o,A,C,J,rfl⟩ | ⟨A,C,E,rfl⟩<;>simp [VR,Value.cells,Value.oneCell']
  | false=>
   simp only [ae,VR];rcases hx with ⟨q,cp,o,A,C,J,rfl⟩ | ⟨A,C,E,rfl⟩
   ·exact .inl ⟨q,cp,o,h c hc _ A,C,J,rfl⟩
   ·exact .inr ⟨h c hc _ A,C,E,rfl⟩
 | .fn f cap,x,hx=>by
  simp only [V.kill,VR] at hx ⊢;obtain ⟨F,A,C⟩:=hx;exact ⟨F,A,VRs.kill h _ _ C⟩
 | .it t v,x,hx=>by
  simp only [V.kill,VR] at hx ⊢;obtain ⟨y,A,C⟩:=hx;exact ⟨y,A,VR.kill h _ _ C⟩
 | .ag l,x,hx=>by
  simp only [V.kill,VR] at hx ⊢;obtain ⟨F,A,C⟩:=hx;exact ⟨F,A,VRs.kill h _ _ C⟩
 | .tp l,x,hx=>by
  simp only [V.kill,VR] at hx ⊢;obtain ⟨F,A,C⟩:=hx;exact ⟨F,A,VRs.kill h _ _ C⟩
theorem VRs.kill {ι A:Inj} {K:List Nat} (h:∀b,isIn K b=false->∀q,ι b=some q->A b=some q):∀(l:List V) (C:List Value),VRs ι l C->VRs A (V.kills K l) C
 | [],_,hx=>by simpa [V.kills,VRs] using hx
 | v::l,C,hx=>by
  simp only [V.kills,VRs] at hx ⊢;obtain ⟨y,G,J,E,F⟩:=hx;exact ⟨y,G,J,VR.kill h _ _ E,VRs.kill h _ _ F⟩
end
theorem BR.kill {ι C:Inj} {K:List Nat} (h:∀b,isIn K b=false->∀q,ι b=some q->C b=some q) {q:Rf}:∀{blk:Blk} {o:Obj},BR ι q blk o->BR C q (blk.kill K) o
 | .dead,_,_=>trivial
 | .rows t l,o,A=>A
 | .cells l,o,A=>by
  obtain ⟨E,e,fr,J,F,G⟩:=A;exact ⟨E,e,fr,J,VRs.kill h _ _ F,G⟩
 | .ints k n l,o,A=>A
 | .iter s pos,o,A=>A
 | .mp k l,o,A=>A
theorem se (K:List Nat):∀(T:List (Nat×Option V)) (t:Nat),look (tw K T) t=(look T t).map (Option.map (V.kill K))
 | [],t=>rfl
 | (u,none)::T,t=>by
  simp only [tw,aP,se K T];split<;>rfl
 | (u,some v)::T,t=>by
  simp only [tw,aP,se K T];split<;>rfl
theorem sA (K:List Nat):∀(H:List (Nat×Blk)) (b:Nat),look (yC K H) b=(look H b).map (Blk.kill K)
 | [],t=>rfl
 | (u,v)::T,t=>by
  simp only [yC,aP,sA K T];split<;>rfl
theorem TR.kill {ι A:Inj} {K:List Nat} (h:∀b,isIn K b=false->∀q,ι b=some q->A b=some q) {T:List (Nat×Option V)} {F:Array Value} (J:TR ι T F):TR A (tw K T) F:=by
 intro t v C;rw [se] at C;cases E:look T t with
 | none=>simp [E] at C
 | some o=>
  cases o with
  | none=>simp [E] at C
  | some u=>
   simp only [E,ee,am] at C;subst C;obtain ⟨x,M,G⟩:=J t u E;exact ⟨x,M,VR.kill h _ _ G⟩
mutual
theorem V.kill_nil:∀v:V,V.kill [] v=v
 | .b _ | .i _ _ | .s _ | .pn | .sn | .nf | .ni | .ai _ _ _ | .unk | .p _ _ | .pr _ _ _ _ | .sl _ _ _ _ | .ws _ | .rs _ _ _ _ _ | .mp _=>rfl
 | .fn f l | .ag l | .tp l=>by simp only [V.kill,V.kills_nil l]
 | .it t v=>by simp only [V.kill,V.kill_nil v]
theorem V.kills_nil:∀l:List V,V.kills [] l=l
 | []=>rfl
 | v::l=>by simp only [V.kills,V.kill_nil v,V.kills_nil l]
end
theorem rL:∀H:List (Nat×Blk),yC [] H=H
 | []=>rfl
 | (b,x)::H=>by
  simp only [yC,rL H];cases x<;>simp only [Blk.kill,V.kills_nil]
theorem us:∀T:List (Nat×Option V),tw [] T=T
 | []=>rfl
 | (b,none)::T=>by simp only [tw,us T]
 | (b,some x)::T=>by simp only [tw,us T,V.kill_nil]
theorem St.kill_eq (K:List Nat) (s:St):s.kill K={ T:=tw K s.T,H:=yC K s.H,nb:=s.nb,lo:=s.lo,ro:=s.ro,rb:=s.rb }:=by
 cases K with
 | nil=>simp only [St.kill,us,rL]
 | cons b K=>rfl
def TL (P:Program) (f:Nat) (args:List V) (r:CR):Prop:=
 r.pan=false/\r.wr=[]/\r.grow=0/\r.kill=[]/\∀(ι:Inj) (w:World) (a:Array Value),VRs ι args a.toList->∃x,(callFunc f a).run P w=.ok (.value x) w/\VR ι r.val x
def GoOK (P:Program) (f:Nat) (args:List V) (H:List (Nat×Blk)) (fr:Nat) (r:CR):Prop:=(jD P f/\Fe P f args H fr r)\/TL P f args r
def ek (P:Program) (x:Ent):Prop:=
 ∀(α:Type) (args:List V) (H:List (Nat×Blk)) (fr:Nat) (k:CR->Option α) (z:α),x.e α args H fr k=some z->
  ∃r,k r=some z/\∀a,(∀b∈r.rd,look a b=look H b)->GoOK P x.f args a fr r
theorem tP {α:Type} {f:Nat} {args:List V} {H:List (Nat×Blk)} {fr:Nat} {k:CR->Option α} {z:α}:∀{E:List Ent},(∀x∈E,ek P x)->Gg α f args H fr k E=some z->
  ∃r,k r=some z/\∀d,(∀b∈r.rd,look d b=look H b)->GoOK P f args d fr r
 | [],_,h=>by simp [Gg] at h
 | x::E,c,h=>by
  simp only [Gg] at h;cases a:Nat.beq x.f f with
  | true=>
   rw [a] at h;have e:=bm a;subst e;exact c x (by simp) α args H fr k z h
  | false=>
   rw [a] at h;exact tP (λy hy=>c y (gP _ hy)) h
def ExR (ι:Inj):Ex->Exit->Prop
 | .normal,e=>e=.normal
 | .exit id,e=>e=.exit id
 | .ret,e=>e=.ret
 | .pan v,e=>∃x,e=.panic [{ v:=x,recovered:=false }]/\VR ι v x
def Post (n:Nat) (ι0:Inj) (w0:Base) (b:Ex->St->Prop):Exit->Act->World->Prop:=
 λe a w=>∃ex s ι,ExR ι ex e/\Inv n ι0 w0 ι s a w/\b ex s
def SemC (P:Program) (n:Nat) (c:Code) (s:St) (b:Ex->St->Prop):Prop:=
 ∀(ι0:Inj) (w0:Base) (ι:Inj) (a:Act) (w:World),Inv n ι0 w0 ι s a w->c.wp P (Post n ι0 w0 b) a w
def iW (P:Program) (n:Nat) (L:List Sub):AC->Prop
 | .seq a b | .cond _ a b=>iW P n L a/\iW P n L b
 | .block _ a | .scope a | .loop a=>iW P n L a
 | .sub m c=>∀(α:Type) (s:St) (k:Ex->St->Option α) (z:α),FB α m s k L=some z->SemC P n c.code s λex d=>k ex d=some z
 | _=>True
theorem Fr.trans {ι0 J:Inj} {w0 w w':World} (h:Fr ι0 w0 w) (O:∀b q,J b=some (some q)->(∃F,ι0 b=some (some F)/\F.r=q.r)\/w0.heap.size<=q.r) (C:Fr J w w'):Fr ι0 w0 w':=by
 refine ⟨C.os.trans h.os,C.tape.trans h.tape,C.output.trans h.output,o6 h.size C.size,λk E A=>?_⟩;rw [C.blk k (mH E h.size) ?_,h.blk k E A];intro b q Q;rcases O b q Q with ⟨F,G,M⟩ | G
 ·rw [<-M];exact A b F G
 ·omega
theorem lD (a:Act) (d:Option Nat) (v:Value):(a.put d v).tmps.size=a.tmps.size:=by
 cases d<;>simp [Act.put]
theorem iy (a:Act) (d:Option Nat) (v:Value):(a.put d v).defers=a.defers:=by
 cases d<;>rfl
theorem TR.app {ι:Inj} {s:St} {a:Act} {n:Nat} {d:Option Nat} {v:Option V} {x:Value} {wr:List (Nat×Blk)} {nb:Nat} (A:TR ι s.T a.tmps) (hs:a.tmps.size=n) (E:sD n d=true)
  (C:∀u,v=some u->VR ι u x):TR ι (s.app d v wr nb).T (a.put d x).tmps:=by
 cases d with
 | none=>exact A
 | some d=>exact A.put (by rw [hs];exact aD E) C
theorem Inv.drawn {n:Nat} {ι0 ι:Inj} {w0:Base} {s:St} {a:Act} {w:World} (h:Inv n ι0 w0 ι s a w) (m:Nat):Inv n ι0 w0 ι s a { w with drawn:=m }:=
 ⟨h.size,h.defers,h.tmps,h.mem.draws m,h.ext,h.new,h.fr.draws m,h.low,h.fz,h.gl⟩
theorem ET {n fr:Nat} {ι0 ι:Inj} {w0:Base} {s:St} {o:Oper} {a:Act} {w:World} {e:Eff} (f:Inv n ι0 w0 ι s a w) (J:ι fr=none) (A:sD n o.dst=true)
  (h:fp P ι fr o a w e) (m:e.new=false->∀K,e.wr=some K->s.ro<=K.1) {next:Act->World->Prop} {Q:Exit->Act->World->Prop}
  (C:∀g H w',(∀b,b≠fr->g b=ι b)->(e.new=false\/e.wr=none->g fr=ι fr)->
   Inv n ι0 w0 g (s.app o.dst e.val e.wr.toList (if e.new=true/\e.wr≠none then max s.nb (fr+1) else s.nb)) H w'->next H w'):
  o.wp P a w next Q:=by
 have l:∀{x:Next} {w':World} {g:Inj},(execOp a.eval o).run P w=.ok x w'->NextR g e.val x->(∀y,(∀u,e.val=some u->VR g u y)->next (a.put o.dst y) w')->o.wp P a w next Q:=by
  intro x w' g F hx hy;unfold Oper.wp;rw [F];cases hx with
  | skip G=>exact hy _ (λu L=>by rw [G] at L;cases L)
  | value x G=>exact hy _ G
 unfold fp at h;split at h
 ·rename_i k;obtain ⟨x,z,t⟩:=h;refine l z t λy hy=>C ι _ _ (λ_ _=>rfl) (λ_=>rfl) ?_;rw [k];simp only [ne_eq,sG,and_false,aG];exact ⟨by rw [lD];exact f.size,by rw [iy];exact f.defers,f.tmps.app f.size A hy,f.mem,f.ext,f.new,f.fr,f.low,f.fz,f.gl⟩
 ·rename_i b blk k;split at h
  ·rename_i i;obtain ⟨r,z,N⟩:=h;have v:r.fz=false:=by
    cases hc:r.fz with
    | false=>rfl
    | true=>have:=f.fz b r z hc;have:=m i _ k;simp only at this;omega
   obtain ⟨ob,x,t,B,D⟩:=N v;refine l t D λy hy=>C ι _ _ (λ_ _=>rfl) (λ_=>rfl) ?_;rw [k,i];simp only [cE,uh,aG];refine ⟨by rw [lD];exact f.size,by rw [iy];exact f.defers,f.tmps.app f.size A hy,f.mem.write z v B,f.ext,f.new,?_,f.low,f.fz,f.gl⟩;exact f.fr.write ((f.new b r z).imp (λ⟨M,h,F⟩=>⟨b,M,Ac h (m i _ k),F⟩) id) _
  ·rename_i i;obtain ⟨rfl,d,q,ob,x,t,I,E,B,D⟩:=h;have j:=n7 (r:=some q) J;refine l t D λy hy=>C (upd ι b (some q)) _ _ (λc hc=>by simp [upd,hc]) (λhc=>by rw [i,k] at hc;simp at hc) ?_;rw [k,i];simp only [ne_eq,reduceCtorEq,CH,and_self,aY]
   refine ⟨by rw [lD];exact f.size,by rw [iy];exact f.defers,(f.tmps.mono j).app f.size A hy,(f.mem.draws d).alloc J (by simp only [St.app];omega) (by simp only [St.app];omega) I B,λc q hc=>(f.ext c q hc).imp (j _ _) id,λc q hc=>?_,(f.fr.draws d).alloc ob,f.low,λc p hc hp=>by
    unfold upd at hc;split at hc
    ·simp only [am] at hc;subst hc;rw [E] at hp;cases hp
    ·exact f.fz c p hc hp,f.gl⟩
   unfold upd at hc;split at hc
   ·simp only [am] at hc;subst hc;exact .inr (by rw [I];exact f.fr.size)
   ·exact f.new c q hc
theorem Inv.phantom' {n:Nat} {ι0 ι:Inj} {w0:Base} {s:St} {a:Act} {w:World} (C:Inv n ι0 w0 ι s a w) {g:Nat} (hf:ι g=none) {nb:Nat} (M:s.nb<=nb) (X:g<nb) (tr:List Lf):
  Inv n ι0 w0 (upd ι g none) { T:=s.T,H:=(g,.rows tr [])::s.H,nb:=nb,lo:=s.lo,ro:=s.ro,rb:=s.rb } a w:=by
 have F:=n7 (r:=none) hf;have E:∀b,b≠g->upd ι g none b=ι b:=λb G=>by simp [upd,G]
 have A:∀b q,upd ι g none b=some (some q)->ι b=some (some q):=by
  intro b q h;by_cases G:b=g
  ·subst G;rw [cT] at h;cases h
  ·rwa [E b G] at h
 refine ⟨C.size,C.defers,C.tmps.mono F,⟨λb Y q W Z Q=>C.mem.inj b Y q W (A _ _ Z) (A _ _ Q),λb q e=>?_,λb q e=>C.mem.dom b q (A _ _ e),λb y J U=>?_⟩,
  λb q e=>(C.ext b q e).imp (F _ _) id,λb q e=>C.new b q (A _ _ e),C.fr,C.low,λb q e=>C.fz b q (A _ _ e),C.gl⟩
 ·by_cases G:b=g
  ·subst G;exact X
  ·rw [E b G] at e;exact mH (C.mem.low b q e) M
 ·rw [aP] at J;split at J
  ·rename_i e;subst e;simp only [am] at J;subst J;exact .inr ⟨cT _ _ _,tr,rfl⟩
  ·rename_i O;exact (C.mem.blk b y J U).map (E b (λe=>O e.symm)) (λ_ _=>rfl) (λ_ _ h=>BR.mono F h) (λ_ h=>h)
theorem Inv.setnb {n:Nat} {ι0 ι:Inj} {w0:Base} {s:St} {a:Act} {w:World} (A:Inv n ι0 w0 ι s a w) {nb:Nat} (h:s.nb<=nb):
  Inv n ι0 w0 ι { T:=s.T,H:=s.H,nb:=nb,lo:=s.lo,ro:=s.ro,rb:=s.rb } a w:=
 ⟨A.size,A.defers,A.tmps,⟨A.mem.inj,λb q e=>mH (A.mem.low b q e) h,A.mem.dom,A.mem.blk⟩,A.ext,A.new,A.fr,A.low,A.fz,A.gl⟩
theorem Nl {ι:Inj} {g:Nat} (a:ι g=some none) {x:Value} (h:VR ι .sn x):VR ι (.ws g) x:=by
 simp only [VR] at h ⊢;exact .inr ⟨a,none,h⟩
theorem xT:∀(ns:List (Nat×List Lf)) (g:Nat) (l:List V) (d:List (Nat×Blk)) (u:List V) (H:List (Nat×Blk)),nilL g ns l d=(u,H)->∃m,H=m++d/\
  ∀{n:Nat} {ι0 ι:Inj} {w0:Base} {s:St} {a:Act} {w:World},Inv n ι0 w0 ι s a w->(∀b,g<=b->b<g+m.length->ι b=none)->∀nb,s.nb<=nb->(m=[]\/g+m.length<=nb)->
   ∃c,(∀b,(b<g\/g+m.length<=b)->c b=ι b)/\(∀b q,ι b=some q->c b=some q)/\(∀o,VRs c l o->VRs c u o)/\
    Inv n ι0 w0 c { T:=s.T,H:=m++s.H,nb:=nb,lo:=s.lo,ro:=s.ro,rb:=s.rb } a w
 | [],g,l,d,u,H,h=>by
  simp only [nilL,cZ] at h;obtain ⟨rfl,rfl⟩:=h;exact ⟨[],rfl,λ{n ι0 ι w0 s a w} z f nb B y=>⟨ι,λ_ _=>rfl,λ_ _ h=>h,λ_ h=>h,z.setnb B⟩⟩
 | (i,tr)::r,g,l,d,u,H,h=>by
  simp only [nilL] at h;split at h
  ·rename_i hi;obtain ⟨v,rfl,F⟩:=xT r (g+1) _ _ _ _ h;refine ⟨v++[(g,.rows tr [])],by simp,λ{n ι0 ι w0 s a w} z f nb B y=>?_⟩;have p:(v++[((g,.rows tr []):Nat×Blk)]).length=v.length+1:=by simp
   rw [p] at f y ⊢;have y:g+(v.length+1)<=nb:=y.resolve_left (by simp);have C:=f g (aW _) (by omega);have t:=n7 (r:=none) C
   obtain ⟨c,k1,k2,k3,E⟩:=F (z.phantom' C B (by omega) tr) (λb J I=>by
    have:upd ι g none b=ι b:=by simp [upd,show b≠g by omega]
    rw [this];exact f b (by omega) (by omega)) nb (aW _) (.inr (by omega))
   refine ⟨c,λb D=>?_,λb q D=>k2 b q (t b q D),λo hx=>k3 o ?_,by simpa using E⟩
   ·rw [k1 b (by omega)];simp [upd,show b≠g by omega]
   ·obtain ⟨x,k,A⟩:=hx.get hi;have:=hx.set i (Nl (g:=g) (k2 _ _ (cT _ _ _)) A);rwa [show o.set i x=o from by
     apply xj;intro j;rw [List.getElem?_set];split
     ·rename_i e;subst e;split
      ·exact k.symm
      ·rename_i G;rw [eF (by omega)] at k;cases k
     ·rfl] at this
  ·exact xT r g l d u H h
theorem Pi {α:Type} (l m:List (Nat×α)) (n:Nat):look (l++m) n=(look l n).or (look m n):=by
 induction l with
 | nil=>rfl
 | cons x l ih=>
  obtain ⟨k,v⟩:=x;rw [ki,aP,aP,ih];split<;>rfl
theorem Inv.reH {n:Nat} {ι0 ι:Inj} {w0:Base} {T:List (Nat×Option V)} {A B:List (Nat×Blk)} {b nb lo ro rb:Nat} {l M:List V} {a:Act} {w:World}
  (E:Inv n ι0 w0 ι ⟨T,A++(b,.cells l)::B,nb,lo,ro,rb⟩ a w) (h:∀J,VRs ι l J->VRs ι M J):Inv n ι0 w0 ι ⟨T,A++(b,.cells M)::B,nb,lo,ro,rb⟩ a w:=by
 refine ⟨E.size,E.defers,E.tmps,⟨E.mem.inj,E.mem.low,E.mem.dom,λc y hc G=>?_⟩,E.ext,E.new,E.fr,E.low,E.fz,E.gl⟩;have C:=E.mem.blk c;rw [Pi,aP] at hc C;cases O:look A c with
 | some z=>rw [O] at hc C;exact C y hc G
 | none=>
  rw [O] at hc C;simp only [Bt] at hc C;split at hc
  ·rename_i e;rw [ad e] at C;simp only [am] at hc;subst hc;rcases C _ rfl (by simp) with ⟨q,o,h1,F,W⟩ | ⟨_,t,F⟩
   ·obtain ⟨Q,U,fr,Y,Z,X⟩:=W;exact .inl ⟨q,o,h1,F,Q,U,fr,Y,h _ Z,X⟩
   ·cases F
  ·rename_i e;rw [ab e] at C;exact C y hc G
theorem Inv.reT {n:Nat} {ι0 ι:Inj} {w0:Base} {s:St} {wr:List (Nat×Blk)} {d:Option Nat} {nb:Nat} {v F:V} {a:Act} {w:World}
  (C:Inv n ι0 w0 ι (s.app d (some v) wr nb) a w) (h:∀x,VR ι v x->VR ι F x):Inv n ι0 w0 ι (s.app d (some F) wr nb) a w:=by
 refine ⟨C.size,C.defers,?_,C.mem,C.ext,C.new,C.fr,C.low,C.fz,C.gl⟩;have G:=C.tmps;cases d with
 | none=>exact G
 | some d=>
  intro t u E;have A:=G t;simp only [St.app,aP] at E A;split at E
  ·rename_i e;rw [ad e] at A;simp only [am] at E;subst E;obtain ⟨x,M,J⟩:=A v rfl;exact ⟨x,M,h x J⟩
  ·rename_i e;rw [ab e] at A;exact A u E
theorem NS {P:Program} {t:TypeId} {g:Nat} {v m:V} {f:List (Nat×Blk)} (h:nilV P t g v=(m,f)) {n:Nat} {ι0 ι:Inj} {w0:Base} {s:St} {d:Option Nat} {nb0:Nat} {a:Act} {w:World}
  (p:Inv n ι0 w0 ι (s.app d (some v) [] nb0) a w) (k:∀b,g<=b->b<g+f.length->ι b=none) {nb:Nat} (q:nb0<=nb) (o:f=[]\/g+f.length<=nb):
  ∃c,(∀b,(b<g\/g+f.length<=b)->c b=ι b)/\Inv n ι0 w0 c (s.app d (some m) f nb) a w:=by
 have j:(v,([]:List (Nat×Blk)))=(m,f)->∃c,(∀b,(b<g\/g+f.length<=b)->c b=ι b)/\Inv n ι0 w0 c (s.app d (some m) f nb) a w:=by
  intro e;simp only [cZ] at e;obtain ⟨rfl,rfl⟩:=e;exact ⟨ι,λ_ _=>rfl,p.setnb q⟩
 unfold nilV at h;split at h
 ·split at h
  ·rename_i i tr r G;simp only [cZ] at h;obtain ⟨rfl,rfl⟩:=h;have B:=k g (aW _) (by simp);have o:g+1<=nb:=by simpa using o
   have:=p.phantom' B q o tr;exact ⟨upd ι g none,λb D=>by simp only [List.length_singleton] at D;simp [upd,show b≠g by omega],Inv.reT (s:=s) (wr:=[(g,.rows tr [])]) (v:=.sn) this λx hx=>Nl (cT _ _ _) hx⟩
  ·exact j h
 ·rename_i l;split at h;rename_i H y A;simp only [cZ] at h;obtain ⟨rfl,rfl⟩:=h;obtain ⟨I,e,C⟩:=xT _ _ _ _ _ _ A;rw [tn] at e;subst e;obtain ⟨c,k1,k2,k3,u⟩:=C p k nb q o;refine ⟨c,k1,Inv.reT (s:=s) (wr:=y) (v:=.ag l) u λx hx=>?_⟩;simp only [VR] at hx ⊢;obtain ⟨E,F,z⟩:=hx;exact ⟨E,F,k3 _ z⟩
 ·exact j h
theorem N9 (nb fr:Nat):∀g,g=0\/fr+g<=nbOf nb fr g
 | 0=>.inl rfl
 | _+1=>.inr (Nat.le_max_right _ _)
theorem vE {P:Program} {fr:Nat} {o:Oper} {e:Eff} {v:Option V} {wr:List (Nat×Blk)} {g:Nat} (h:xd P fr o e=(v,wr,g)) (c:g=0):e.new=false\/e.wr=none:=by
 unfold xd at h;split at h
 ·rename_i a;exact .inr a
 ·split at h
  ·rename_i b;exact .inl b
  ·split at h
   ·split at h;simp only [cZ] at h;omega
   ·simp only [cZ] at h;omega
theorem H4 {P:Program} {fr nb:Nat} {o:Oper} {e:Eff} {v:Option V} {wr:List (Nat×Blk)} {g:Nat} (h:xd P fr o e=(v,wr,g)):
  (if e.new=true/\e.wr≠none then max nb (fr+1) else nb)<=nbOf nb fr g:=by
 cases g with
 | zero=>
  have:=vE h rfl;rw [ab (λhc=>by rcases this with h | h;rw [h] at hc;cases hc.1;exact hc.2 h)];exact aW _
 | succ g=>
  simp only [nbOf];split<;>omega
theorem fp.new_eq {ι:Inj} {f:Nat} {o:Oper} {a:Act} {w:World} {e:Eff} (h:fp P ι f o a w e) {A:Nat×Blk} (C:e.wr=some A) (E:e.new=true):A.1=f:=by
 unfold fp at h;rw [C] at h;simp only [E] at h;exact h.1
theorem Af {P:Program} {fr:Nat} {o:Oper} {e:Eff} {v:Option V} {wr:List (Nat×Blk)} {g:Nat} (h:xd P fr o e=(v,wr,g)) {n:Nat} {ι0 ι:Inj} {w0:Base} {s:St} {nb0 nb:Nat} {a:Act} {w:World}
  (k:Inv n ι0 w0 ι (s.app o.dst e.val e.wr.toList nb0) a w) (m:∀b,fr<=b->b<fr+g->(b=fr->e.wr=none)->ι b=none) (K:∀p,e.wr=some p->e.new=true->p.1=fr) (z:nb0<=nb) (D:g=0\/fr+g<=nb):
  ∃f,(∀b,(b<fr\/fr+g<=b)->f b=ι b)/\Inv n ι0 w0 f (s.app o.dst v wr nb) a w:=by
 have i:(e.val,e.wr.toList)=(v,wr)->∃f,(∀b,(b<fr\/fr+g<=b)->f b=ι b)/\Inv n ι0 w0 f (s.app o.dst v wr nb) a w:=by
  intro e;simp only [cZ] at e;obtain ⟨rfl,rfl⟩:=e;exact ⟨ι,λ_ _=>rfl,k.setnb z⟩
 unfold xd at h;split at h
 ·rename_i j;rw [j] at k i;split at h
  ·rename_i t u M L;split at h;rename_i O H I;simp only [cZ] at h;obtain ⟨rfl,rfl,rfl⟩:=h;rw [L] at k;obtain ⟨f,k1,k2⟩:=NS I (d:=o.dst) (s:=s) k (λb x F=>m b x F λ_=>j) z (D.imp (λh=>uu h) id);exact ⟨f,k1,k2⟩
  ·simp only [cZ] at h;exact i (by simp [h.1,h.2.1])
 ·rename_i p j;rw [j] at i;split at h
  ·simp only [cZ] at h;exact i (by simp [h.1,h.2.1])
  ·rename_i y;split at h
   ·rename_i t l Q r;split at h;rename_i R H G;simp only [cZ] at h;obtain ⟨rfl,rfl,rfl⟩:=h;obtain ⟨S,C,J⟩:=xT _ _ _ _ _ _ G;rw [tn] at C;subst C;rw [j] at k;have x:=K p j y;obtain ⟨b,blk⟩:=p;simp only at r x;subst r x;obtain ⟨f,k1,k2,k3,E⟩:=J k (λc T N=>m c (by omega) (by omega) (λq=>by omega)) nb z (D.elim (λh=>by omega) λh=>.inr (by omega));refine ⟨f,λc hc=>k1 c (by omega),?_⟩;have:=Inv.reH (A:=H) (B:=s.H) (b:=b) E k3;simpa [St.app] using this
   ·simp only [cZ] at h;exact i (by simp [h.1,h.2.1])
theorem M3 {ι:Inj} {T:List (Nat×Option V)} {a:Act} (c:TR ι T a.tmps) {g:Operand} {f:Nat} {cap:List V} (h:opd T g=some (.fn f cap)):
  ∃b:Array Value,a.eval g=fnV f b/\VRs ι cap b.toList:=by
 have:=bh c h;simpa only [VR] using this
theorem xa {wr:List (Nat×Blk)} {ι:Inj} {b:Nat} {r:Option Rf} (h:tj wr ι b=some r):∃x∈wr,x.1=b:=by
 unfold tj at h;split at h
 ·rename_i c;obtain ⟨x,hx,a⟩:=qe.1 c;exact ⟨x,hx,bm a⟩
 ·cases h
theorem zY (wr:List (Nat×Blk)) (ι:Inj):∀b r,tj wr ι b=some r->ι b=some r:=by
 intro b r h;unfold tj at h;split at h
 ·exact h
 ·cases h
theorem LU {K f:Nat} {ι:Inj} {o:Oper} {a:Act} {g:Operand} {args:Array Operand} {d:Array TypeId} {c:Array Value} {cap l:List V} (i:o.op=.call ⟨.value g,args,d⟩)
  (b:a.eval g=fnW K f c) (e:VRs ι cap c.toList) (h:VRs ι l (args.toList.map a.eval)) (w:World):
  ∃as:Array Value,VRs ι (fnAW K f l cap) as.toList/\(execOp a.eval o).run P w=(callFunc (fnFW K f) as).run P w:=by
 unfold fnAW fnFW;unfold fnW at b;cases j:Nat.blt f K<;>rw [j] at b<;>simp only at b ⊢
 ·refine ⟨c++args.map a.eval,by simpa using e.append h,?_⟩;simp only [execOp,i,resolve,b,Deferred.ofValue,Array.append_empty,av,az,ax,invoke]
 ·refine ⟨args.map a.eval++c,by simpa using h.append e,?_⟩;simp only [execOp,i,resolve,b,Deferred.ofValue,Array.empty_append,av,az,ax,invoke]
theorem yq {n fr:Nat} {ι0 ι:Inj} {w0:Base} {s:St} {o:Oper} {a:Act} {w:World} {g:Operand} {args:Array Operand} {Y:Array TypeId} {f:Nat} {cap l:List V} {r:CR}
  (ho:o.op=.call ⟨.value g,args,Y⟩) (d:Inv n ι0 w0 ι s a w) (I:∀b,fr<=b->b<fr+r.grow->ι b=none) (hd:sD n o.dst=true)
  (hg:opd s.T g=some (.fn f cap)) (hl:opds (opd s.T) args.toList=some l) (B:r.wr.all (λx=>Nat.ble s.ro x.1)=true)
  (A:r.kill.all (λb=>Nat.ble s.rb b)=true) (hc:GoOK P (fnF f) (fnA f l cap) s.H fr r)
  {next:Act->World->Prop} {Q:Exit->Act->World->Prop}
  (W:r.pan=false->∀i a' w',(∀b,isIn r.kill b=false->(b<fr\/fr+r.grow<=b)->i b=ι b)->Inv n ι0 w0 i ((s.kill r.kill).app o.dst (some r.val) r.wr (max s.nb (fr+r.grow))) a' w'->next a' w')
  (hp:r.pan=true->∀i x w',VR i r.val x->Inv n ι0 w0 i ((s.kill r.kill).app none none r.wr (max s.nb (fr+r.grow))) a w'->Q (.panic [{ v:=x,recovered:=false }]) a w'):
  o.wp P a w next Q:=by
 obtain ⟨cs,h1,h2⟩:=M3 d.tmps hg;have h3:=wj d.tmps hl;obtain ⟨as,K,t⟩:=LU (P:=P) ho (show a.eval g=fnW 1000000 f cs from h1) h2 h3 w;rcases hc with ⟨hE,hc⟩ | ⟨a1,a2,a3,a4,G⟩
 case inr=>
  obtain ⟨x,D,hx⟩:=G ι w as K;have m:(execOp a.eval o).run P w=.ok (.value x) w:=by rw [t];exact D
  unfold Oper.wp;rw [m];refine W a1 ι _ _ (λ_ _ _=>rfl) ?_;rw [a2,a3,a4,fg];refine ⟨by rw [lD];exact d.size,by rw [iy];exact d.defers,TR.app (s:=s) d.tmps d.size hd (λu hu=>by cases hu;exact hx),?_,d.ext,d.new,d.fr,d.low,d.fz,d.gl⟩;exact ⟨d.mem.inj,λb q F=>mH (d.mem.low b q F) (Bd _ _),d.mem.dom,d.mem.blk⟩
 have m:(execOp a.eval o).run P w=.ok (.enter (fnF f) as) w:=by rw [t];exact hE _ _
 unfold Oper.wp;rw [m];simp only [Oper.upon];refine (hc ι s.nb w as d.mem (d.glHere λb q j=>by
  obtain ⟨x,hx,rfl⟩:=xa j;exact ⟨zY r.wr ι x.1 _ j,aD (cr.1 B x hx)⟩) (λx hx q F=>by
  cases hc:q.fz with
  | false=>rfl
  | true=>have:=d.fz x.1 q F hc;have:=aD (cr.1 B x hx);omega) (λb hb1 hb2=>I b hb1 (by omega)) K).mono λe w' h=>?_
 obtain ⟨i,O,g0,g2,g6,g3,g4,X⟩:=h;have L:∀b q,i b=some (some q)->q.fz=true->b<s.ro:=λb q j F=>d.fz b q (g6 b q j F) F;have J:∀b,isIn r.kill b=true->s.rb<=b:=by
  intro b j;obtain ⟨c,M,Z⟩:=qe.1 j;rw [bm Z];exact aD (cr.1 A c M)
 have p:∀b,isIn r.kill b=false->∀q,ι b=some q->i b=some q:=by
  intro b C q j;rw [O b C ?_];exact j;rcases aH b fr with h | h
  ·exact .inl h
  ·rcases aH b (fr+r.grow) with h' | h'
   ·have:=I b h (by omega);rw [this] at j;cases j
   ·exact .inr h'
 have k:∀b q,ι0 b=some q->i b=some q\/s.rb<=b:=by
  intro b q j;rcases d.ext b q j with h | h
  ·cases C:isIn r.kill b with
   | true=>exact .inr (J b C)
   | false=>exact .inl (p b C q h)
  ·exact .inr h
 have z:∀b q,i b=some (some q)->(∃E,ι0 b=some (some E)/\E.r=q.r)\/w0.w.heap.size<=q.r:=by
  intro b q j;cases C:isIn r.kill b with
  | true=>
   rcases g0 b q C j with ⟨E,h6,h7⟩ | h6
   ·rw [<-h7];exact d.new b E h6
   ·exact .inr (o6 d.fr.size h6)
  | false=>
   by_cases R:b<fr\/fr+r.grow<=b
   ·rw [O b C R] at j;exact d.new b q j
   ·have:=g2 b q (by omega) (by omega) j;exact .inr (o6 d.fr.size this)
 have y:Fr (roI ι0 s.ro) w0.w w':=d.fr.trans (λb q j=>by
  obtain ⟨x,hx,rfl⟩:=xa j;have h1:=aD (cr.1 B x hx);exact (d.new x.1 q (zY r.wr ι x.1 _ j)).imp (λ⟨E,h,hr⟩=>⟨E,Ac h h1,hr⟩) id) g4
 have hT:=d.tmps.kill p;rw [St.kill_eq] at W hp;cases e with
 | returned x=>
  obtain ⟨U,S⟩:=X;refine W U i _ _ O ⟨by rw [lD];exact d.size,by rw [iy];exact d.defers,TR.app (s:={ T:=tw r.kill s.T,H:=yC r.kill s.H,nb:=s.nb,lo:=s.lo,ro:=s.ro,rb:=s.rb }) hT d.size hd (λu hu=>by cases hu;exact S),g3,k,z,y,d.low,L,d.gl⟩
 | panicked N=>
  obtain ⟨U,x,rfl,S⟩:=X;exact hp U i x _ S ⟨d.size,d.defers,hT,g3,k,z,y,d.low,L,d.gl⟩
 | outgrown=>exact X.elim
theorem D9 {α:Type} {E:List Ent} (hE:∀x∈E,ek P x) {n fr:Nat} {ι0 ι:Inj} {w0:Base} {s:St} {o:Oper} {a:Act} {w:World} (H:Inv n ι0 w0 ι s a w)
  (B:∀b,fr<=b->b<fr+8->ι b=none) {k:St->List Nat->List (Nat×Blk)->Nat->Option α} {kp:V->St->Option α} {z:α} (h:Am P E n fr o s k kp=some z)
  {next:Act->World->Prop} {Q:Exit->Act->World->Prop}
  (hn:∀J rd wr g c m w',k J rd wr g=some z->(∀b,(b<fr\/fr+g<=b)->c b=ι b)->Inv n ι0 w0 c J m w'->next m w')
  (hp:∀v J c x m w',kp v J=some z->VR c v x->Inv n ι0 w0 c J m w'->Q (.panic [{ v:=x,recovered:=false }]) m w'):
  o.wp P a w next Q:=by
 have T:ι fr=none:=B fr (aW _) (by omega);unfold Am at h;split at h
 ·cases h
 rename_i hd;have M:sI P fr o s k=some z->o.wp P a w next Q:=by
  intro h;unfold sI at h;obtain ⟨e,O,L⟩:=HY H.tmps H.mem T h;split at O;rename_i v wr g u;split at O
  case h_2=>cases O
  rename_i N;simp only [ay] at N;have U:=aD N.2;have G:∀R,e.wr=some R->e.new=true->R.1=fr:=λR X C=>fp.new_eq L X C;refine ET H T hd L (λC R X=>by
   have:=N.1;unfold roOK at this;rw [X] at this;simp only [C] at this;exact aD this) λc m w' A g2 d=>?_
  obtain ⟨Z,k1,k2⟩:=Af u d (λb e1 e2 e3=>by
   by_cases i:b=fr
   ·subst i;rw [g2 (.inr (e3 rfl))];exact T
   ·rw [A b i];exact B b e1 (by omega)) G (nb:=nbOf s.nb fr g) (H4 u) (N9 s.nb fr g)
  refine hn _ _ _ _ Z m w' O (λb W=>?_) k2;rw [k1 b W];by_cases i:b=fr
  ·subst i;refine g2 (vE u (by omega))
  ·exact A b i
 split at h
 ·rename_i cl F;split at h
  ·rename_i g q;split at h
   ·rename_i f cap hg;obtain ⟨l,hl,h⟩:=au h;obtain ⟨r,I,h3⟩:=tP hE h;split at I
    ·cases I
    rename_i p;simp only [ay] at p;have D:r.kill=[]:=by simpa using p.2.2
    have U:=aD p.1;obtain ⟨S,args,tys⟩:=cl;simp only at q;subst q;refine yq F H (λb e1 e2=>B b e1 (by omega)) hd hg hl p.2.1 (by rw [D];rfl) (h3 _ λ_ _=>rfl) (λj c m w' A d=>?_) (λj c x w' A d=>?_)
    ·rw [j] at I;rw [D] at A d;exact hn _ _ _ _ c m w' I (λb N=>A b rfl N) d
    ·rw [j] at I;rw [D] at d;exact hp _ _ c x a w' I A d
   ·cases h
  ·exact M h
 ·rename_i x F;split at h
  ·rename_i t v hx;have Y:=bh H.tmps hx;have hv':=Y;simp only [VR] at Y;obtain ⟨y,h6,_⟩:=Y;unfold Oper.wp;have K:(execOp a.eval o).run P w=.halt (.panic (.iface t y)) w:=by
    simp only [execOp,F,h6,Instr.panic,av,run_goPanic,Result.andThen_halt]
   rw [K];exact hp _ _ ι _ a w h (h6▸hv') H
  ·cases h
 ·exact M h
theorem TR.again {ι:Inj} {T:List (Nat×Option V)} {C:Array Value} (E:TR ι T C) {d:Nat} {v:V} (F:look T d=some (some v)):TR ι ((d,some v)::T) C:=by
 intro t u A;rw [aP] at A;split at A
 ·rename_i e;subst e;simp only [am] at A;subst A;exact E d v F
 ·exact E t u A
theorem Inv.again {n:Nat} {ι0 ι:Inj} {w0:Base} {s:St} {a:Act} {w:World} (h:Inv n ι0 w0 ι s a w) {d:Nat} {v:V} (A:look s.T d=some (some v)):
  Inv n ι0 w0 ι { s with T:=(d,some v)::s.T } a w:=
 ⟨h.size,h.defers,h.tmps.again A,h.mem,h.ext,h.new,h.fr,h.low,h.fz,h.gl⟩
theorem pG {ops:List Oper} {j d:Nat} (h:gtmp ops j=some d) (a:Array Value):
  yielded ops.toArray a j=match a[d]? with | some (.bool b)=>some b | _=>none:=by
 unfold gtmp at h;split at h
 ·rename_i o c;have:(ops.toArray[j]?).bind (·.dst)=some d:=by simp [c,h]
  unfold yielded;rw [this];rfl
 ·cases h
theorem Jm {α:Type} {n:Nat} {ι0 ι:Inj} {w0:Base} {ops:List Oper} {o:Oper} {s:St} {a:Act} {w:World} (f:Inv n ι0 w0 ι s a w) {k:Bool->St->Option α} {z:α}
  (h:uE ops o s k=some z):∃c l,k c l=some z/\Inv n ι0 w0 ι l a w/\Region.wanted o (yielded ops.toArray a.tmps)=c/\(∀t,look l.T t=look s.T t)/\l.H=s.H/\l.nb=s.nb:=by
 unfold uE at h;split at h
 ·rename_i i;exact ⟨true,s,h,f,by simp [Region.wanted,i],λ_=>rfl,rfl,rfl⟩
 ·rename_i j c i;split at h
  case h_2=>cases h
  rename_i d p;have hy:=pG p a.tmps;have again:∀x,look s.T d=some (some (.b x))->∀t,look ((d,some (V.b x))::s.T) t=look s.T t:=by
   intro x hx t;rw [aP];split
   ·rename_i e;subst e;exact hx.symm
   ·rfl
  split at h
  ·rename_i x hx;obtain ⟨y,m,g⟩:=f.tmps d _ hx;simp only [VR] at g;subst g;rw [m] at hy;cases x
   ·exact ⟨!c,_,h,f.again hx,by cases c<;>simp [Region.wanted,i,hy],again _ hx,rfl,rfl⟩
   ·exact ⟨c,_,h,f.again hx,by cases c<;>simp [Region.wanted,i,hy],again _ hx,rfl,rfl⟩
  ·rename_i hx;obtain ⟨y,m,g⟩:=f.tmps d _ hx;simp only [VR] at g;obtain ⟨q,rfl,_⟩:=g;rw [m] at hy;exact ⟨false,s,h,f,by simp [Region.wanted,i,hy],λ_=>rfl,rfl,rfl⟩
  ·cases h
theorem Lr (ι:Inj):VR ι (.tp []) undef:=by
 simp only [VR];exact ⟨#[],rfl,by simp [VRs]⟩
theorem Inv.skip {n:Nat} {ι0 ι:Inj} {w0:Base} {s:St} {a:Act} {w:World} (h:Inv n ι0 w0 ι s a w) {d:Option Nat} (C:sD n d=true):
  Inv n ι0 w0 ι (s.app d (some (.tp [])) [] s.nb) (a.put d undef) w:=
 ⟨by rw [lD];exact h.size,by rw [iy];exact h.defers,h.tmps.app h.size C (λu A=>by cases A;exact Lr ι),h.mem,h.ext,h.new,h.fr,h.low,h.fz,h.gl⟩
theorem Inv.fresh {n:Nat} {ι0 ι:Inj} {w0:Base} {s:St} {a:Act} {w:World} (h:Inv n ι0 w0 ι s a w):∀b,s.nb<=b->ι b=none:=by
 intro b A;cases hi:ι b with
 | none=>rfl
 | some r=>have:=h.mem.low b r hi;omega
end Go.Abs
