
/- The interpreter is sound: what it comes to is what the model's code comes to.
   Conditions: none; generic over the program. -/
import Derived.Test.YthemneooekobkabGreatDoorAbsI
set_option linter.unusedSimpArgs false
set_option linter.unusedVariables false
namespace Go.Abs
variable {P:Program}
def k9 (P:Program) (f:Nat):Prop:=∀(args:Array Value) (w:World),(callFunc f args).run P w=.ok (.enter f args) w
def RetR (ι:Inj) (r:CR):Ending->Prop
 | .returned x=>r.pan=false/\VR ι r.val x
 | .panicked a=>r.pan=true/\∃x,a=[{ v:=x,recovered:=false }]/\VR ι r.val x
 | .outgrown=>False
def vI (wr:List (Nat×Blk)) (ι:Inj):Inj:=λb=>if wr.any (λx=>Nat.beq x.1 b) then ι b else none
def IG (P:Program) (f:Nat) (args:List V) (H:List (Nat×Blk)) (fr:Nat) (r:CR):Prop:=
 ∀(ι:Inj) (nb:Nat) (w:World) (c:Array Value),WR ι H nb w->GL (vI r.wr ι) w->(∀x∈r.wr,∀q,ι x.1=some (some q)->q.fz=false)->(∀b,fr<=b->b<fr+r.grow->ι b=none)->VRs ι args c.toList->
  Calls P f c w λe w'=>∃a:Inj,(∀b,isIn r.kill b=false->(b<fr\/fr+r.grow<=b)->a b=ι b)/\
   (∀b q,isIn r.kill b=true->a b=some (some q)->(∃d,ι b=some (some d)/\d.r=q.r)\/w.heap.size<=q.r)/\(∀b q,fr<=b->b<fr+r.grow->a b=some (some q)->w.heap.size<=q.r)/\(∀b q,a b=some (some q)->q.fz=true->ι b=some (some q))/\
   WR a (r.wr++BV r.kill H) (max nb (fr+r.grow)) w'/\Fr (vI r.wr ι) w w'/\RetR a r e
mutual
theorem VR.kill {ι J:Inj} {K:List Nat} (h:∀b,isIn K b=false->∀q,ι b=some q->J b=some q):∀(v:V) (x:Value),VR ι v x->VR J (V.kill K v) x
 | .b _,_,hx | .i _ _,_,hx | .s _,_,hx | .pn,_,hx | .sn,_,hx | .nf,_,hx | .ni,_,hx | .ai _ _ _,_,hx | .unk,_,hx=>by simpa only [V.kill,VR] using hx
 | .p c o,x,hx=>by
  simp only [VR] at hx;obtain ⟨q,C,rfl⟩:=hx;simp only [V.kill];cases hc:isIn K c with
  | true=>simp [VR,Value.cells,Value.oneCell']
  | false=>simp only [af,VR];exact ⟨q,h c hc _ C,rfl⟩
 | .mp c,x,hx=>by
  simp only [VR] at hx;obtain ⟨q,C,rfl⟩:=hx;simp only [V.kill];cases hc:isIn K c with
  | true=>simp [VR,Value.cells,Value.oneCell']
  | false=>simp only [af,VR];exact ⟨q,h c hc _ C,rfl⟩
 | .pr z c j o,x,hx=>by
  simp only [VR] at hx;obtain ⟨q,C,rfl⟩:=hx;simp only [V.kill];cases hc:isIn K c with
  | true=>simp [VR,Value.cells,Value.oneCell']
  | false=>simp only [af,VR];exact ⟨q,h c hc _ C,rfl⟩
 | .sl c o n m,x,hx=>by
  simp only [VR] at hx;obtain ⟨q,cp,C,E,O,rfl⟩:=hx;simp only [V.kill];cases hc:isIn K c with
  | true=>simp [VR,Value.cells,Value.oneCell']
  | false=>simp only [af,VR];exact ⟨q,cp,h c hc _ C,E,O,rfl⟩
 | .ws c,x,hx=>by
  simp only [VR] at hx;simp only [V.kill];cases hc:isIn K c with
  | true=>rcases hx with ⟨q,C,rfl⟩ | ⟨C,G,rfl⟩<;>simp [VR,Value.cells,Value.oneCell']
  | false=>
   simp only [af,VR];rcases hx with ⟨q,C,rfl⟩ | ⟨C,G,rfl⟩
   ·exact .inl ⟨q,h c hc _ C,rfl⟩
   ·exact .inr ⟨h c hc _ C,G,rfl⟩
 | .rs z c j n _,x,hx=>by
  simp only [VR] at hx;simp only [V.kill];cases hc:isIn K c with
  | true=>rcases hx with ⟨q,cp,o,C,E,O,rfl⟩ | ⟨C,E,G,rfl⟩<;>simp [VR,Value.cells,Value.oneCell']
  | false=>
   simp only [af,VR];rcases hx with ⟨q,cp,o,C,E,O,rfl⟩ | ⟨C,E,G,rfl⟩
   ·exact .inl ⟨q,cp,o,h c hc _ C,E,O,rfl⟩
   ·exact .inr ⟨h c hc _ C,E,G,rfl⟩
 | .fn f cap,x,hx=>by
  simp only [V.kill,VR] at hx ⊢;obtain ⟨F,C,E⟩:=hx;exact ⟨F,C,VRs.kill h _ _ E⟩
 | .it t v,x,hx=>by
  simp only [V.kill,VR] at hx ⊢;obtain ⟨y,C,E⟩:=hx;exact ⟨y,C,VR.kill h _ _ E⟩
 | .ag l,x,hx=>by
  simp only [V.kill,VR] at hx ⊢;obtain ⟨F,C,E⟩:=hx;exact ⟨F,C,VRs.kill h _ _ E⟩
 | .tp l,x,hx=>by
  simp only [V.kill,VR] at hx ⊢;obtain ⟨F,C,E⟩:=hx;exact ⟨F,C,VRs.kill h _ _ E⟩
theorem VRs.kill {ι C:Inj} {K:List Nat} (h:∀b,isIn K b=false->∀q,ι b=some q->C b=some q):∀(l:List V) (E:List Value),VRs ι l E->VRs C (V.kills K l) E
 | [],_,hx=>by simpa [V.kills,VRs] using hx
 | v::l,E,hx=>by
  simp only [V.kills,VRs] at hx ⊢;obtain ⟨y,O,G,J,F⟩:=hx;exact ⟨y,O,G,VR.kill h _ _ J,VRs.kill h _ _ F⟩
end
theorem BR.kill {ι E:Inj} {K:List Nat} (h:∀b,isIn K b=false->∀q,ι b=some q->E b=some q) {q:Rf}:∀{blk:Blk} {o:Obj},BR ι q blk o->BR E q (blk.kill K) o
 | .dead,_,_=>trivial
 | .rows t l,o,C=>C
 | .cells l,o,C=>by
  obtain ⟨J,e,fr,G,O,F⟩:=C;exact ⟨J,e,fr,G,VRs.kill h _ _ O,F⟩
 | .ints k n l,o,C=>C
 | .iter s pos,o,C=>C
 | .mp k l,o,C=>C
theorem vh (K:List Nat):∀(T:List (Nat×Option V)) (t:Nat),look (vL K T) t=(look T t).map (Option.map (V.kill K))
 | [],t=>rfl
 | (u,none)::T,t=>by
  simp only [vL,aV,vh K T];split<;>rfl
 | (u,some v)::T,t=>by
  simp only [vL,aV,vh K T];split<;>rfl
theorem vc (K:List Nat):∀(H:List (Nat×Blk)) (b:Nat),look (BV K H) b=(look H b).map (Blk.kill K)
 | [],t=>rfl
 | (u,v)::T,t=>by
  simp only [BV,aV,vc K T];split<;>rfl
theorem TR.kill {ι E:Inj} {K:List Nat} (h:∀b,isIn K b=false->∀q,ι b=some q->E b=some q) {T:List (Nat×Option V)} {G:Array Value} (Q:TR ι T G):TR E (vL K T) G:=by
 intro t v C;rw [vh] at C;cases F:look T t with
 | none=>simp [F] at C
 | some o=>
  cases o with
  | none=>simp [F] at C
  | some u=>
   simp only [F,fb,au] at C;subst C;obtain ⟨x,J,O⟩:=Q t u F;exact ⟨x,J,VR.kill h _ _ O⟩
mutual
theorem V.kill_nil:∀v:V,V.kill [] v=v
 | .b _ | .i _ _ | .s _ | .pn | .sn | .nf | .ni | .ai _ _ _ | .unk | .p _ _ | .pr _ _ _ _ | .sl _ _ _ _ | .ws _ | .rs _ _ _ _ _ | .mp _=>rfl
 | .fn f l | .ag l | .tp l=>by simp only [V.kill,V.kills_nil l]
 | .it t v=>by simp only [V.kill,V.kill_nil v]
theorem V.kills_nil:∀l:List V,V.kills [] l=l
 | []=>rfl
 | v::l=>by simp only [V.kills,V.kill_nil v,V.kills_nil l]
end
theorem ut:∀H:List (Nat×Blk),BV [] H=H
 | []=>rfl
 | (b,x)::H=>by
  simp only [BV,ut H];cases x<;>simp only [Blk.kill,V.kills_nil]
theorem ym:∀T:List (Nat×Option V),vL [] T=T
 | []=>rfl
 | (b,none)::T=>by simp only [vL,ym T]
 | (b,some x)::T=>by simp only [vL,ym T,V.kill_nil]
theorem St.kill_eq (K:List Nat) (s:St):s.kill K={ T:=vL K s.T,H:=BV K s.H,nb:=s.nb,lo:=s.lo,ro:=s.ro,rb:=s.rb }:=by
 cases K with
 | nil=>simp only [St.kill,ym,ut]
 | cons b K=>rfl
def XE (P:Program) (f:Nat) (args:List V) (r:CR):Prop:=
 r.pan=false/\r.wr=[]/\r.grow=0/\r.kill=[]/\∀(ι:Inj) (w:World) (a:Array Value),VRs ι args a.toList->∃x,(callFunc f a).run P w=.ok (.value x) w/\VR ι r.val x
def GoOK (P:Program) (f:Nat) (args:List V) (H:List (Nat×Blk)) (fr:Nat) (r:CR):Prop:=(k9 P f/\IG P f args H fr r)\/XE P f args r
def f9 (P:Program) (x:Ent):Prop:=
 ∀(α:Type) (args:List V) (H:List (Nat×Blk)) (fr:Nat) (k:CR->Option α) (z:α),x.e α args H fr k=some z->
  ∃r,k r=some z/\∀a,(∀b∈r.rd,look a b=look H b)->GoOK P x.f args a fr r
theorem wm {α:Type} {f:Nat} {args:List V} {H:List (Nat×Blk)} {fr:Nat} {k:CR->Option α} {z:α}:∀{E:List Ent},(∀x∈E,f9 P x)->I0 α f args H fr k E=some z->
  ∃r,k r=some z/\∀c,(∀b∈r.rd,look c b=look H b)->GoOK P f args c fr r
 | [],_,h=>by simp [I0] at h
 | x::E,d,h=>by
  simp only [I0] at h;cases a:Nat.beq x.f f with
  | true=>
   rw [a] at h;have e:=bP a;subst e;exact d x (by simp) α args H fr k z h
  | false=>
   rw [a] at h;exact wm (λy hy=>d y (fY _ hy)) h
def ExR (ι:Inj):Ex->Exit->Prop
 | .normal,e=>e=.normal
 | .exit id,e=>e=.exit id
 | .ret,e=>e=.ret
 | .pan v,e=>∃x,e=.panic [{ v:=x,recovered:=false }]/\VR ι v x
def Post (n:Nat) (ι0:Inj) (w0:Base) (b:Ex->St->Prop):Exit->Act->World->Prop:=
 λe a w=>∃ex s ι,ExR ι ex e/\Inv n ι0 w0 ι s a w/\b ex s
def SemC (P:Program) (n:Nat) (c:Code) (s:St) (b:Ex->St->Prop):Prop:=
 ∀(ι0:Inj) (w0:Base) (ι:Inj) (a:Act) (w:World),Inv n ι0 w0 ι s a w->c.wp P (Post n ι0 w0 b) a w
def jX (P:Program) (n:Nat) (L:List Sub):AC->Prop
 | .seq a b | .cond _ a b=>jX P n L a/\jX P n L b
 | .block _ a | .scope a | .loop a=>jX P n L a
 | .sub m c=>∀(α:Type) (s:St) (k:Ex->St->Option α) (z:α),IS α m s k L=some z->SemC P n c.code s λex s'=>k ex s'=some z
 | _=>True
theorem Fr.trans {ι0 O:Inj} {w0 w w':World} (h:Fr ι0 w0 w) (Q:∀b q,O b=some (some q)->(∃G,ι0 b=some (some G)/\G.r=q.r)\/w0.heap.size<=q.r) (C:Fr O w w'):Fr ι0 w0 w':=by
 refine ⟨C.os.trans h.os,C.tape.trans h.tape,C.output.trans h.output,qX h.size C.size,λk F E=>?_⟩;rw [C.blk k (rD F h.size) ?_,h.blk k F E];intro b q W;rcases Q b q W with ⟨G,J,U⟩ | J
 ·rw [<-U];exact E b G J
 ·omega
theorem nE (a:Act) (d:Option Nat) (v:Value):(a.put d v).tmps.size=a.tmps.size:=by
 cases d<;>simp [Act.put]
theorem jJ (a:Act) (d:Option Nat) (v:Value):(a.put d v).defers=a.defers:=by
 cases d<;>rfl
theorem TR.app {ι:Inj} {s:St} {a:Act} {n:Nat} {d:Option Nat} {v:Option V} {x:Value} {wr:List (Nat×Blk)} {nb:Nat} (C:TR ι s.T a.tmps) (hs:a.tmps.size=n) (E:vu n d=true)
  (F:∀u,v=some u->VR ι u x):TR ι (s.app d v wr nb).T (a.put d x).tmps:=by
 cases d with
 | none=>exact C
 | some d=>exact C.put (by rw [hs];exact aJ E) F
theorem Inv.drawn {n:Nat} {ι0 ι:Inj} {w0:Base} {s:St} {a:Act} {w:World} (h:Inv n ι0 w0 ι s a w) (m:Nat):Inv n ι0 w0 ι s a { w with drawn:=m }:=
 ⟨h.size,h.defers,h.tmps,h.mem.draws m,h.ext,h.new,h.fr.draws m,h.low,h.fz,h.gl⟩
theorem GM {n fr:Nat} {ι0 ι:Inj} {w0:Base} {s:St} {o:Oper} {a:Act} {w:World} {e:Eff} (f:Inv n ι0 w0 ι s a w) (K:ι fr=none) (C:vu n o.dst=true)
  (h:gO P ι fr o a w e) (t:e.new=false->∀H,e.wr=some H->s.ro<=H.1) {next:Act->World->Prop} {Q:Exit->Act->World->Prop}
  (F:∀g J w',(∀b,b≠fr->g b=ι b)->(e.new=false\/e.wr=none->g fr=ι fr)->
   Inv n ι0 w0 g (s.app o.dst e.val e.wr.toList (if e.new=true/\e.wr≠none then max s.nb (fr+1) else s.nb)) J w'->next J w'):
  o.wp P a w next Q:=by
 have fin:∀{x:Next} {w':World} {g:Inj},(execOp a.eval o).run P w=.ok x w'->NextR g e.val x->(∀y,(∀u,e.val=some u->VR g u y)->next (a.put o.dst y) w')->o.wp P a w next Q:=by
  intro x w' g A hx hy;unfold Oper.wp;rw [A];cases hx with
  | skip D=>exact hy _ (λu I=>by rw [D] at I;cases I)
  | value x D=>exact hy _ D
 unfold gO at h;split at h
 ·rename_i k;obtain ⟨x,m,v⟩:=h;refine fin m v λy hy=>F ι _ _ (λ_ _=>rfl) (λ_=>rfl) ?_;rw [k];simp only [ne_eq,vr,and_false,aB];exact ⟨by rw [nE];exact f.size,by rw [jJ];exact f.defers,f.tmps.app f.size C hy,f.mem,f.ext,f.new,f.fr,f.low,f.fz,f.gl⟩
 ·rename_i b blk k;split at h
  ·rename_i i;obtain ⟨r,m,L⟩:=h;have l:r.fz=false:=by
    cases hc:r.fz with
    | false=>rfl
    | true=>have:=f.fz b r m hc;have:=t i _ k;simp only at this;omega
   obtain ⟨ob,x,v,z,B⟩:=L l;refine fin v B λy hy=>F ι _ _ (λ_ _=>rfl) (λ_=>rfl) ?_;rw [k,i];simp only [bv,xO,aB];refine ⟨by rw [nE];exact f.size,by rw [jJ];exact f.defers,f.tmps.app f.size C hy,f.mem.write m l z,f.ext,f.new,?_,f.low,f.fz,f.gl⟩;exact f.fr.write ((f.new b r m).imp (λ⟨M,h,A⟩=>⟨b,M,CU h (t i _ k),A⟩) id) _
  ·rename_i i;obtain ⟨rfl,d,q,ob,x,v,G,E,z,B⟩:=h;have j:=pQ (r:=some q) K;refine fin v B λy hy=>F (upd ι b (some q)) _ _ (λc hc=>by simp [upd,hc]) (λhc=>by rw [i,k] at hc;simp at hc) ?_;rw [k,i];simp only [ne_eq,reduceCtorEq,FI,and_self,aL]
   refine ⟨by rw [nE];exact f.size,by rw [jJ];exact f.defers,(f.tmps.mono j).app f.size C hy,(f.mem.draws d).alloc K (by simp only [St.app];omega) (by simp only [St.app];omega) G z,λc q hc=>(f.ext c q hc).imp (j _ _) id,λc q hc=>?_,(f.fr.draws d).alloc ob,f.low,λc p hc hp=>by
    unfold upd at hc;split at hc
    ·simp only [au] at hc;subst hc;rw [E] at hp;cases hp
    ·exact f.fz c p hc hp,f.gl⟩
   unfold upd at hc;split at hc
   ·simp only [au] at hc;subst hc;exact .inr (by rw [G];exact f.fr.size)
   ·exact f.new c q hc
theorem Inv.phantom' {n:Nat} {ι0 ι:Inj} {w0:Base} {s:St} {a:Act} {w:World} (E:Inv n ι0 w0 ι s a w) {g:Nat} (W:ι g=none) {nb:Nat} (U:s.nb<=nb) (Z:g<nb) (tr:List Lf):
  Inv n ι0 w0 (upd ι g none) { T:=s.T,H:=(g,.rows tr [])::s.H,nb:=nb,lo:=s.lo,ro:=s.ro,rb:=s.rb } a w:=by
 have F:=pQ (r:=none) W;have G:∀b,b≠g->upd ι g none b=ι b:=λb J=>by simp [upd,J]
 have C:∀b q,upd ι g none b=some (some q)->ι b=some (some q):=by
  intro b q h;by_cases J:b=g
  ·subst J;rw [dD] at h;cases h
  ·rwa [G b J] at h
 refine ⟨E.size,E.defers,E.tmps.mono F,⟨λb b' q q' X e2=>E.mem.inj b b' q q' (C _ _ X) (C _ _ e2),λb q e=>?_,λb q e=>E.mem.dom b q (C _ _ e),λb y O Y=>?_⟩,
  λb q e=>(E.ext b q e).imp (F _ _) id,λb q e=>E.new b q (C _ _ e),E.fr,E.low,λb q e=>E.fz b q (C _ _ e),E.gl⟩
 ·by_cases J:b=g
  ·subst J;exact Z
  ·rw [G b J] at e;exact rD (E.mem.low b q e) U
 ·rw [aV] at O;split at O
  ·rename_i e;subst e;simp only [au] at O;subst O;exact .inr ⟨dD _ _ _,tr,rfl⟩
  ·rename_i Q;exact (E.mem.blk b y O Y).map (G b (λe=>Q e.symm)) (λ_ _=>rfl) (λ_ _ h=>BR.mono F h) (λ_ h=>h)
theorem Inv.setnb {n:Nat} {ι0 ι:Inj} {w0:Base} {s:St} {a:Act} {w:World} (C:Inv n ι0 w0 ι s a w) {nb:Nat} (h:s.nb<=nb):
  Inv n ι0 w0 ι { T:=s.T,H:=s.H,nb:=nb,lo:=s.lo,ro:=s.ro,rb:=s.rb } a w:=
 ⟨C.size,C.defers,C.tmps,⟨C.mem.inj,λb q e=>rD (C.mem.low b q e) h,C.mem.dom,C.mem.blk⟩,C.ext,C.new,C.fr,C.low,C.fz,C.gl⟩
theorem Q5 {ι:Inj} {g:Nat} (a:ι g=some none) {x:Value} (h:VR ι .sn x):VR ι (.ws g) x:=by
 simp only [VR] at h ⊢;exact .inr ⟨a,none,h⟩
theorem BP:∀(ns:List (Nat×List Lf)) (g:Nat) (l:List V) (acc:List (Nat×Blk)) (t:List V) (H:List (Nat×Blk)),nilL g ns l acc=(t,H)->∃k,H=k++acc/\
  ∀{n:Nat} {ι0 ι:Inj} {w0:Base} {s:St} {a:Act} {w:World},Inv n ι0 w0 ι s a w->(∀b,g<=b->b<g+k.length->ι b=none)->∀nb,s.nb<=nb->(k=[]\/g+k.length<=nb)->
   ∃c,(∀b,(b<g\/g+k.length<=b)->c b=ι b)/\(∀b q,ι b=some q->c b=some q)/\(∀m,VRs c l m->VRs c t m)/\
    Inv n ι0 w0 c { T:=s.T,H:=k++s.H,nb:=nb,lo:=s.lo,ro:=s.ro,rb:=s.rb } a w
 | [],g,l,acc,t,H,h=>by
  simp only [nilL,ba] at h;obtain ⟨rfl,rfl⟩:=h;exact ⟨[],rfl,λ{n ι0 ι w0 s a w} A d nb y v=>⟨ι,λ_ _=>rfl,λ_ _ h=>h,λ_ h=>h,A.setnb y⟩⟩
 | (i,tr)::r,g,l,acc,t,H,h=>by
  simp only [nilL] at h;split at h
  ·rename_i hi;obtain ⟨u,rfl,D⟩:=BP r (g+1) _ _ _ _ h;refine ⟨u++[(g,.rows tr [])],by simp,λ{n ι0 ι w0 s a w} A d nb y v=>?_⟩;have o:(u++[((g,.rows tr []):Nat×Blk)]).length=u.length+1:=by simp
   rw [o] at d v ⊢;have v:g+(u.length+1)<=nb:=v.resolve_left (by simp);have B:=d g (aY _) (by omega);have p:=pQ (r:=none) B
   obtain ⟨c,k1,k2,F,k4⟩:=D (A.phantom' B y (by omega) tr) (λb G I=>by
    have:upd ι g none b=ι b:=by simp [upd,show b≠g by omega]
    rw [this];exact d b (by omega) (by omega)) nb (aY _) (.inr (by omega))
   refine ⟨c,λb C=>?_,λb q C=>k2 b q (p b q C),λm hx=>F m ?_,by simpa using k4⟩
   ·rw [k1 b (by omega)];simp [upd,show b≠g by omega]
   ·obtain ⟨x,f,z⟩:=hx.get hi;have:=hx.set i (Q5 (g:=g) (k2 _ _ (dD _ _ _)) z);rwa [show m.set i x=m from by
     apply DZ;intro j;rw [List.getElem?_set];split
     ·rename_i e;subst e;split
      ·exact f.symm
      ·rename_i E;rw [g9 (by omega)] at f;cases f
     ·rfl] at this
  ·exact BP r g l acc t H h
theorem RD {α:Type} (l m:List (Nat×α)) (n:Nat):look (l++m) n=(look l n).or (look m n):=by
 induction l with
 | nil=>rfl
 | cons x l ih=>
  obtain ⟨k,v⟩:=x;rw [fg,aV,aV,ih];split<;>rfl
theorem Inv.reH {n:Nat} {ι0 ι:Inj} {w0:Base} {T:List (Nat×Option V)} {A B:List (Nat×Blk)} {b nb lo ro rb:Nat} {l Q:List V} {a:Act} {w:World}
  (E:Inv n ι0 w0 ι ⟨T,A++(b,.cells l)::B,nb,lo,ro,rb⟩ a w) (h:∀O,VRs ι l O->VRs ι Q O):Inv n ι0 w0 ι ⟨T,A++(b,.cells Q)::B,nb,lo,ro,rb⟩ a w:=by
 refine ⟨E.size,E.defers,E.tmps,⟨E.mem.inj,E.mem.low,E.mem.dom,λc y hc J=>?_⟩,E.ext,E.new,E.fr,E.low,E.fz,E.gl⟩;have C:=E.mem.blk c;rw [RD,aV] at hc C;cases G:look A c with
 | some z=>rw [G] at hc C;exact C y hc J
 | none=>
  rw [G] at hc C;simp only [Gv] at hc C;split at hc
  ·rename_i e;rw [ae e] at C;simp only [au] at hc;subst hc;rcases C _ rfl (by simp) with ⟨q,o,X,F,U⟩ | ⟨_,t,F⟩
   ·obtain ⟨Z,e',fr,g1,Y,W⟩:=U;exact .inl ⟨q,o,X,F,Z,e',fr,g1,h _ Y,W⟩
   ·cases F
  ·rename_i e;rw [ab e] at C;exact C y hc J
theorem Inv.reT {n:Nat} {ι0 ι:Inj} {w0:Base} {s:St} {wr:List (Nat×Blk)} {d:Option Nat} {nb:Nat} {v G:V} {a:Act} {w:World}
  (E:Inv n ι0 w0 ι (s.app d (some v) wr nb) a w) (h:∀x,VR ι v x->VR ι G x):Inv n ι0 w0 ι (s.app d (some G) wr nb) a w:=by
 refine ⟨E.size,E.defers,?_,E.mem,E.ext,E.new,E.fr,E.low,E.fz,E.gl⟩;have J:=E.tmps;cases d with
 | none=>exact J
 | some d=>
  intro t u F;have C:=J t;simp only [St.app,aV] at F C;split at F
  ·rename_i e;rw [ae e] at C;simp only [au] at F;subst F;obtain ⟨x,O,Q⟩:=C v rfl;exact ⟨x,O,h x Q⟩
  ·rename_i e;rw [ab e] at C;exact C u F
theorem Ub {P:Program} {t:TypeId} {g:Nat} {v m:V} {f:List (Nat×Blk)} (h:nilV P t g v=(m,f)) {n:Nat} {ι0 ι:Inj} {w0:Base} {s:St} {d:Option Nat} {nb0:Nat} {a:Act} {w:World}
  (q:Inv n ι0 w0 ι (s.app d (some v) [] nb0) a w) (k:∀b,g<=b->b<g+f.length->ι b=none) {nb:Nat} (p:nb0<=nb) (o:f=[]\/g+f.length<=nb):
  ∃c,(∀b,(b<g\/g+f.length<=b)->c b=ι b)/\Inv n ι0 w0 c (s.app d (some m) f nb) a w:=by
 have j:(v,([]:List (Nat×Blk)))=(m,f)->∃c,(∀b,(b<g\/g+f.length<=b)->c b=ι b)/\Inv n ι0 w0 c (s.app d (some m) f nb) a w:=by
  intro e;simp only [ba] at e;obtain ⟨rfl,rfl⟩:=e;exact ⟨ι,λ_ _=>rfl,q.setnb p⟩
 unfold nilV at h;split at h
 ·split at h
  ·rename_i i tr r I;simp only [ba] at h;obtain ⟨rfl,rfl⟩:=h;have C:=k g (aY _) (by simp);have o:g+1<=nb:=by simpa using o
   have:=q.phantom' C p o tr;exact ⟨upd ι g none,λb D=>by simp only [Bi] at D;simp [upd,show b≠g by omega],Inv.reT (s:=s) (wr:=[(g,.rows tr [])]) (v:=.sn) this λx hx=>Q5 (dD _ _ _) hx⟩
  ·exact j h
 ·rename_i l;split at h;rename_i H A B;simp only [ba] at h;obtain ⟨rfl,rfl⟩:=h;obtain ⟨G,e,u⟩:=BP _ _ _ _ _ _ B;rw [lO] at e;subst e;obtain ⟨c,k1,k2,F,k4⟩:=u q k nb p o;refine ⟨c,k1,Inv.reT (s:=s) (wr:=A) (v:=.ag l) k4 λx hx=>?_⟩;simp only [VR] at hx ⊢;obtain ⟨E,y,z⟩:=hx;exact ⟨E,y,F _ z⟩
 ·exact j h
theorem RG (nb fr:Nat):∀g,g=0\/fr+g<=nbOf nb fr g
 | 0=>.inl rfl
 | _+1=>.inr (Nat.le_max_right _ _)
theorem xi {P:Program} {fr:Nat} {o:Oper} {e:Eff} {v:Option V} {wr:List (Nat×Blk)} {g:Nat} (h:zy P fr o e=(v,wr,g)) (c:g=0):e.new=false\/e.wr=none:=by
 unfold zy at h;split at h
 ·rename_i a;exact .inr a
 ·split at h
  ·rename_i b;exact .inl b
  ·split at h
   ·split at h;simp only [ba] at h;omega
   ·simp only [ba] at h;omega
theorem JK {P:Program} {fr nb:Nat} {o:Oper} {e:Eff} {v:Option V} {wr:List (Nat×Blk)} {g:Nat} (h:zy P fr o e=(v,wr,g)):
  (if e.new=true/\e.wr≠none then max nb (fr+1) else nb)<=nbOf nb fr g:=by
 cases g with
 | zero=>
  have:=xi h rfl;rw [ab (λhc=>by rcases this with h | h;rw [h] at hc;cases hc.1;exact hc.2 h)];exact aY _
 | succ g=>
  simp only [nbOf];split<;>omega
theorem gO.new_eq {ι:Inj} {f:Nat} {o:Oper} {a:Act} {w:World} {e:Eff} (h:gO P ι f o a w e) {C:Nat×Blk} (E:e.wr=some C) (F:e.new=true):C.1=f:=by
 unfold gO at h;rw [E] at h;simp only [F] at h;exact h.1
theorem DJ {P:Program} {fr:Nat} {o:Oper} {e:Eff} {v:Option V} {wr:List (Nat×Blk)} {g:Nat} (h:zy P fr o e=(v,wr,g)) {n:Nat} {ι0 ι:Inj} {w0:Base} {s:St} {nb0 nb:Nat} {a:Act} {w:World}
  (k:Inv n ι0 w0 ι (s.app o.dst e.val e.wr.toList nb0) a w) (m:∀b,fr<=b->b<fr+g->(b=fr->e.wr=none)->ι b=none) (J:∀r,e.wr=some r->e.new=true->r.1=fr) (z:nb0<=nb) (D:g=0\/fr+g<=nb):
  ∃f,(∀b,(b<fr\/fr+g<=b)->f b=ι b)/\Inv n ι0 w0 f (s.app o.dst v wr nb) a w:=by
 have i:(e.val,e.wr.toList)=(v,wr)->∃f,(∀b,(b<fr\/fr+g<=b)->f b=ι b)/\Inv n ι0 w0 f (s.app o.dst v wr nb) a w:=by
  intro e;simp only [ba] at e;obtain ⟨rfl,rfl⟩:=e;exact ⟨ι,λ_ _=>rfl,k.setnb z⟩
 unfold zy at h;split at h
 ·rename_i j;rw [j] at k i;split at h
  ·rename_i t u T F;split at h;rename_i N H K;simp only [ba] at h;obtain ⟨rfl,rfl,rfl⟩:=h;rw [F] at k;obtain ⟨f,k1,k2⟩:=Ub K (d:=o.dst) (s:=s) k (λb x G=>m b x G λ_=>j) z (D.imp (λh=>uc h) id);exact ⟨f,k1,k2⟩
  ·simp only [ba] at h;exact i (by simp [h.1,h.2.1])
 ·rename_i r j;rw [j] at i;split at h
  ·simp only [ba] at h;exact i (by simp [h.1,h.2.1])
  ·rename_i y;split at h
   ·rename_i t l S p;split at h;rename_i R H I;simp only [ba] at h;obtain ⟨rfl,rfl,rfl⟩:=h;obtain ⟨M,C,E⟩:=BP _ _ _ _ _ _ I;rw [lO] at C;subst C;rw [j] at k;have x:=J r j y;obtain ⟨b,blk⟩:=r;simp only at p x;subst p x;obtain ⟨f,k1,k2,L,k4⟩:=E k (λc O Q=>m c (by omega) (by omega) (λq=>by omega)) nb z (D.elim (λh=>by omega) λh=>.inr (by omega));refine ⟨f,λc hc=>k1 c (by omega),?_⟩;have:=Inv.reH (A:=H) (B:=s.H) (b:=b) k4 L;simpa [St.app] using this
   ·simp only [ba] at h;exact i (by simp [h.1,h.2.1])
theorem QR {ι:Inj} {T:List (Nat×Option V)} {a:Act} (c:TR ι T a.tmps) {g:Operand} {f:Nat} {cap:List V} (h:opd T g=some (.fn f cap)):
  ∃b:Array Value,a.eval g=fnV f b/\VRs ι cap b.toList:=by
 have:=bA c h;simpa only [VR] using this
theorem zO {wr:List (Nat×Blk)} {ι:Inj} {b:Nat} {r:Option Rf} (h:vI wr ι b=some r):∃x∈wr,x.1=b:=by
 unfold vI at h;split at h
 ·rename_i a;obtain ⟨x,hx,c⟩:=tX.1 a;exact ⟨x,hx,bP c⟩
 ·cases h
theorem DO (wr:List (Nat×Blk)) (ι:Inj):∀b r,vI wr ι b=some r->ι b=some r:=by
 intro b r h;unfold vI at h;split at h
 ·exact h
 ·cases h
theorem PU {K f:Nat} {ι:Inj} {o:Oper} {a:Act} {g:Operand} {args:Array Operand} {d:Array TypeId} {c:Array Value} {cap l:List V} (h:o.op=.call ⟨.value g,args,d⟩)
  (b:a.eval g=fnW K f c) (i:VRs ι cap c.toList) (e:VRs ι l (args.toList.map a.eval)) (w:World):
  ∃as:Array Value,VRs ι (fnAW K f l cap) as.toList/\(execOp a.eval o).run P w=(callFunc (fnFW K f) as).run P w:=by
 unfold fnAW fnFW;unfold fnW at b;cases j:Nat.blt f K<;>rw [j] at b<;>simp only at b ⊢
 ·refine ⟨c++args.map a.eval,by simpa using i.append e,?_⟩;simp only [execOp,h,resolve,b,Deferred.ofValue,Array.append_empty,aw,aD,az,invoke]
 ·refine ⟨args.map a.eval++c,by simpa using e.append i,?_⟩;simp only [execOp,h,resolve,b,Deferred.ofValue,Array.empty_append,aw,aD,az,invoke]
theorem BJ {n fr:Nat} {ι0 ι:Inj} {w0:Base} {s:St} {o:Oper} {a:Act} {w:World} {g:Operand} {args:Array Operand} {M:Array TypeId} {f:Nat} {cap l:List V} {r:CR}
  (ho:o.op=.call ⟨.value g,args,M⟩) (d:Inv n ι0 w0 ι s a w) (G:∀b,fr<=b->b<fr+r.grow->ι b=none) (hd:vu n o.dst=true)
  (hg:opd s.T g=some (.fn f cap)) (hl:opds (opd s.T) args.toList=some l) (D:r.wr.all (λx=>Nat.ble s.ro x.1)=true)
  (C:r.kill.all (λb=>Nat.ble s.rb b)=true) (hc:GoOK P (fnF f) (fnA f l cap) s.H fr r)
  {next:Act->World->Prop} {Q:Exit->Act->World->Prop}
  (hn:r.pan=false->∀i a' w',(∀b,isIn r.kill b=false->(b<fr\/fr+r.grow<=b)->i b=ι b)->Inv n ι0 w0 i ((s.kill r.kill).app o.dst (some r.val) r.wr (max s.nb (fr+r.grow))) a' w'->next a' w')
  (hp:r.pan=true->∀i x w',VR i r.val x->Inv n ι0 w0 i ((s.kill r.kill).app none none r.wr (max s.nb (fr+r.grow))) a w'->Q (.panic [{ v:=x,recovered:=false }]) a w'):
  o.wp P a w next Q:=by
 obtain ⟨cs,R,h2⟩:=QR d.tmps hg;have h3:=yH d.tmps hl;obtain ⟨as,I,t⟩:=PU (P:=P) ho (show a.eval g=fnW 1000000 f cs from R) h2 h3 w;rcases hc with ⟨hE,hc⟩ | ⟨a1,a2,a3,a4,J⟩
 case inr=>
  obtain ⟨x,B,hx⟩:=J ι w as I;have m:(execOp a.eval o).run P w=.ok (.value x) w:=by rw [t];exact B
  unfold Oper.wp;rw [m];refine hn a1 ι _ _ (λ_ _ _=>rfl) ?_;rw [a2,a3,a4,cP];refine ⟨by rw [nE];exact d.size,by rw [jJ];exact d.defers,TR.app (s:=s) d.tmps d.size hd (λu S=>by cases S;exact hx),?_,d.ext,d.new,d.fr,d.low,d.fz,d.gl⟩;exact ⟨d.mem.inj,λb q E=>rD (d.mem.low b q E) (EP _ _),d.mem.dom,d.mem.blk⟩
 have m:(execOp a.eval o).run P w=.ok (.enter (fnF f) as) w:=by rw [t];exact hE _ _
 unfold Oper.wp;rw [m];simp only [Oper.upon];refine (hc ι s.nb w as d.mem (d.glHere λb q j=>by
  obtain ⟨x,hx,rfl⟩:=zO j;exact ⟨DO r.wr ι x.1 _ j,aJ (cK.1 D x hx)⟩) (λx hx q E=>by
  cases hc:q.fz with
  | false=>rfl
  | true=>have:=d.fz x.1 q E hc;have:=aJ (cK.1 D x hx);omega) (λb hb1 hb2=>G b hb1 (by omega)) I).mono λe w' h=>?_
 obtain ⟨i,N,g0,g2,g6,g3,g4,X⟩:=h;have L:∀b q,i b=some (some q)->q.fz=true->b<s.ro:=λb q j E=>d.fz b q (g6 b q j E) E;have K:∀b,isIn r.kill b=true->s.rb<=b:=by
  intro b j;obtain ⟨c,hc1,Z⟩:=tX.1 j;rw [bP Z];exact aJ (cK.1 C c hc1)
 have p:∀b,isIn r.kill b=false->∀q,ι b=some q->i b=some q:=by
  intro b A q j;rw [N b A ?_];exact j;rcases aH b fr with h | h
  ·exact .inl h
  ·rcases aH b (fr+r.grow) with h' | h'
   ·have:=G b h (by omega);rw [this] at j;cases j
   ·exact .inr h'
 have k:∀b q,ι0 b=some q->i b=some q\/s.rb<=b:=by
  intro b q j;rcases d.ext b q j with h | h
  ·cases A:isIn r.kill b with
   | true=>exact .inr (K b A)
   | false=>exact .inl (p b A q h)
  ·exact .inr h
 have z:∀b q,i b=some (some q)->(∃F,ι0 b=some (some F)/\F.r=q.r)\/w0.w.heap.size<=q.r:=by
  intro b q j;cases A:isIn r.kill b with
  | true=>
   rcases g0 b q A j with ⟨F,U,h7⟩ | U
   ·rw [<-h7];exact d.new b F U
   ·exact .inr (qX d.fr.size U)
  | false=>
   by_cases hin:b<fr\/fr+r.grow<=b
   ·rw [N b A hin] at j;exact d.new b q j
   ·have:=g2 b q (by omega) (by omega) j;exact .inr (qX d.fr.size this)
 have y:Fr (roI ι0 s.ro) w0.w w':=d.fr.trans (λb q j=>by
  obtain ⟨x,hx,rfl⟩:=zO j;have R:=aJ (cK.1 D x hx);exact (d.new x.1 q (DO r.wr ι x.1 _ j)).imp (λ⟨F,h,hr⟩=>⟨F,CU h R,hr⟩) id) g4
 have hT:=d.tmps.kill p;rw [St.kill_eq] at hn hp;cases e with
 | returned x=>
  obtain ⟨W,Y⟩:=X;refine hn W i _ _ N ⟨by rw [nE];exact d.size,by rw [jJ];exact d.defers,TR.app (s:={ T:=vL r.kill s.T,H:=BV r.kill s.H,nb:=s.nb,lo:=s.lo,ro:=s.ro,rb:=s.rb }) hT d.size hd (λu S=>by cases S;exact Y),g3,k,z,y,d.low,L,d.gl⟩
 | panicked O=>
  obtain ⟨W,x,rfl,Y⟩:=X;exact hp W i x _ Y ⟨d.size,d.defers,hT,g3,k,z,y,d.low,L,d.gl⟩
 | outgrown=>exact X.elim
theorem GQ {α:Type} {E:List Ent} (hE:∀x∈E,f9 P x) {n fr:Nat} {ι0 ι:Inj} {w0:Base} {s:St} {o:Oper} {a:Act} {w:World} (I:Inv n ι0 w0 ι s a w)
  (u:∀b,fr<=b->b<fr+8->ι b=none) {k:St->List Nat->List (Nat×Blk)->Nat->Option α} {kp:V->St->Option α} {z:α} (h:Dl P E n fr o s k kp=some z)
  {next:Act->World->Prop} {Q:Exit->Act->World->Prop}
  (hn:∀s' rd wr g c p w',k s' rd wr g=some z->(∀b,(b<fr\/fr+g<=b)->c b=ι b)->Inv n ι0 w0 c s' p w'->next p w')
  (hp:∀v s' c x p w',kp v s'=some z->VR c v x->Inv n ι0 w0 c s' p w'->Q (.panic [{ v:=x,recovered:=false }]) p w'):
  o.wp P a w next Q:=by
 have X:ι fr=none:=u fr (aY _) (by omega);unfold Dl at h;split at h
 ·cases h
 rename_i hd;have J:uK P fr o s k=some z->o.wp P a w next Q:=by
  intro h;unfold uK at h;obtain ⟨e,N,K⟩:=JJ I.tmps I.mem X h;split at N;rename_i v wr g G;split at N
  case h_2=>cases N
  rename_i L;simp only [aA] at L;have W:=aJ L.2;have C:∀O,e.wr=some O->e.new=true->O.1=fr:=λO U D=>gO.new_eq K U D;refine GM I X hd K (λD O U=>by
   have:=L.1;unfold roOK at this;rw [U] at this;simp only [D] at this;exact aJ this) λc p w' B g2 d=>?_
  obtain ⟨Y,k1,k2⟩:=DJ G d (λb T e2 e3=>by
   by_cases j:b=fr
   ·subst j;rw [g2 (.inr (e3 rfl))];exact X
   ·rw [B b j];exact u b T (by omega)) C (nb:=nbOf s.nb fr g) (JK G) (RG s.nb fr g)
  refine hn _ _ _ _ Y p w' N (λb S=>?_) k2;rw [k1 b S];by_cases j:b=fr
  ·subst j;refine g2 (xi G (by omega))
  ·exact B b j
 split at h
 ·rename_i cl A;split at h
  ·rename_i g q;split at h
   ·rename_i f cap hg;obtain ⟨l,hl,h⟩:=av h;obtain ⟨r,H,h3⟩:=wm hE h;split at H
    ·cases H
    rename_i m;simp only [aA] at m;have F:r.kill=[]:=by simpa using m.2.2
    have W:=aJ m.1;obtain ⟨R,args,tys⟩:=cl;simp only at q;subst q;refine BJ A I (λb T e2=>u b T (by omega)) hd hg hl m.2.1 (by rw [F];rfl) (h3 _ λ_ _=>rfl) (λi c p w' B d=>?_) (λi c x w' B d=>?_)
    ·rw [i] at H;rw [F] at B d;exact hn _ _ _ _ c p w' H (λb L=>B b rfl L) d
    ·rw [i] at H;rw [F] at d;exact hp _ _ c x a w' H B d
   ·cases h
  ·exact J h
 ·rename_i x A;split at h
  ·rename_i t v hx;have Z:=bA I.tmps hx;have hv':=Z;simp only [VR] at Z;obtain ⟨y,h6,_⟩:=Z;unfold Oper.wp;have M:(execOp a.eval o).run P w=.halt (.panic (.iface t y)) w:=by
    simp only [execOp,A,h6,Instr.panic,aw,run_goPanic,Result.andThen_halt]
   rw [M];exact hp _ _ ι _ a w h (h6▸hv') I
  ·cases h
 ·exact J h
theorem TR.again {ι:Inj} {T:List (Nat×Option V)} {E:Array Value} (F:TR ι T E) {d:Nat} {v:V} (G:look T d=some (some v)):TR ι ((d,some v)::T) E:=by
 intro t u C;rw [aV] at C;split at C
 ·rename_i e;subst e;simp only [au] at C;subst C;exact F d v G
 ·exact F t u C
theorem Inv.again {n:Nat} {ι0 ι:Inj} {w0:Base} {s:St} {a:Act} {w:World} (h:Inv n ι0 w0 ι s a w) {d:Nat} {v:V} (C:look s.T d=some (some v)):
  Inv n ι0 w0 ι { s with T:=(d,some v)::s.T } a w:=
 ⟨h.size,h.defers,h.tmps.again C,h.mem,h.ext,h.new,h.fr,h.low,h.fz,h.gl⟩
theorem sj {ops:List Oper} {j d:Nat} (h:gtmp ops j=some d) (a:Array Value):
  yielded ops.toArray a j=match a[d]? with | some (.bool b)=>some b | _=>none:=by
 unfold gtmp at h;split at h
 ·rename_i o c;have:(ops.toArray[j]?).bind (·.dst)=some d:=by simp [c,h]
  unfold yielded;rw [this];rfl
 ·cases h
theorem ME {α:Type} {n:Nat} {ι0 ι:Inj} {w0:Base} {ops:List Oper} {o:Oper} {s:St} {a:Act} {w:World} (f:Inv n ι0 w0 ι s a w) {k:Bool->St->Option α} {z:α}
  (h:wP ops o s k=some z):∃c s',k c s'=some z/\Inv n ι0 w0 ι s' a w/\Region.wanted o (yielded ops.toArray a.tmps)=c/\(∀t,look s'.T t=look s.T t)/\s'.H=s.H/\s'.nb=s.nb:=by
 unfold wP at h;split at h
 ·rename_i g;exact ⟨true,s,h,f,by simp [Region.wanted,g],λ_=>rfl,rfl,rfl⟩
 ·rename_i j c g;split at h
  case h_2=>cases h
  rename_i d m;have hy:=sj m a.tmps;have again:∀x,look s.T d=some (some (.b x))->∀t,look ((d,some (V.b x))::s.T) t=look s.T t:=by
   intro x hx t;rw [aV];split
   ·rename_i e;subst e;exact hx.symm
   ·rfl
  split at h
  ·rename_i x hx;obtain ⟨y,l,i⟩:=f.tmps d _ hx;simp only [VR] at i;subst i;rw [l] at hy;cases x
   ·exact ⟨!c,_,h,f.again hx,by cases c<;>simp [Region.wanted,g,hy],again _ hx,rfl,rfl⟩
   ·exact ⟨c,_,h,f.again hx,by cases c<;>simp [Region.wanted,g,hy],again _ hx,rfl,rfl⟩
  ·rename_i hx;obtain ⟨y,l,i⟩:=f.tmps d _ hx;simp only [VR] at i;obtain ⟨p,rfl,_⟩:=i;rw [l] at hy;exact ⟨false,s,h,f,by simp [Region.wanted,g,hy],λ_=>rfl,rfl,rfl⟩
  ·cases h
theorem O1 (ι:Inj):VR ι (.tp []) undef:=by
 simp only [VR];exact ⟨#[],rfl,by simp [VRs]⟩
theorem Inv.skip {n:Nat} {ι0 ι:Inj} {w0:Base} {s:St} {a:Act} {w:World} (h:Inv n ι0 w0 ι s a w) {d:Option Nat} (C:vu n d=true):
  Inv n ι0 w0 ι (s.app d (some (.tp [])) [] s.nb) (a.put d undef) w:=
 ⟨by rw [nE];exact h.size,by rw [jJ];exact h.defers,h.tmps.app h.size C (λu E=>by cases E;exact O1 ι),h.mem,h.ext,h.new,h.fr,h.low,h.fz,h.gl⟩
theorem Inv.fresh {n:Nat} {ι0 ι:Inj} {w0:Base} {s:St} {a:Act} {w:World} (h:Inv n ι0 w0 ι s a w):∀b,s.nb<=b->ι b=none:=by
 intro b C;cases hi:ι b with
 | none=>rfl
 | some r=>have:=h.mem.low b r hi;omega
end Go.Abs
