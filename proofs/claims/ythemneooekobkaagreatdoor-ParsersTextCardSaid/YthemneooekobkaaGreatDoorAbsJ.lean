
/- The interpreter is sound: what it comes to is what the model's code comes to.
   Conditions: none; generic over the program. -/
import Derived.Test.YthemneooekobkaaGreatDoorAbsI
set_option linter.unusedSimpArgs false
set_option linter.unusedVariables false
namespace Go.Abs
variable {P:Program}
def me (P:Program) (f:Nat):Prop:=∀(args:Array Value) (w:World),(callFunc f args).run P w=.ok (.enter f args) w
def RetR (ι:Inj) (r:CR):Ending->Prop
 | .returned x=>r.pan=false/\VR ι r.val x
 | .panicked a=>r.pan=true/\∃x,a=[{ v:=x,recovered:=false }]/\VR ι r.val x
 | .outgrown=>False
def vI (wr:List (Nat×Blk)) (ι:Inj):Inj:=λb=>if wr.any (λx=>Nat.beq x.1 b) then ι b else none
def HA (P:Program) (f:Nat) (args:List V) (H:List (Nat×Blk)) (fr:Nat) (r:CR):Prop:=
 ∀(ι:Inj) (nb:Nat) (w:World) (d:Array Value),WR ι H nb w->GL (vI r.wr ι) w->(∀x∈r.wr,∀q,ι x.1=some (some q)->q.fz=false)->(∀b,fr<=b->b<fr+r.grow->ι b=none)->VRs ι args d.toList->
  Calls P f d w λe w'=>∃a:Inj,(∀b,isIn r.kill b=false->(b<fr\/fr+r.grow<=b)->a b=ι b)/\
   (∀b q,isIn r.kill b=true->a b=some (some q)->(∃c,ι b=some (some c)/\c.r=q.r)\/w.heap.size<=q.r)/\(∀b q,fr<=b->b<fr+r.grow->a b=some (some q)->w.heap.size<=q.r)/\(∀b q,a b=some (some q)->q.fz=true->ι b=some (some q))/\
   WR a (r.wr++AT r.kill H) (max nb (fr+r.grow)) w'/\Fr (vI r.wr ι) w w'/\RetR a r e
mutual
theorem VR.kill {ι J:Inj} {K:List Nat} (h:∀b,isIn K b=false->∀q,ι b=some q->J b=some q):∀(v:V) (x:Value),VR ι v x->VR J (V.kill K v) x
 | .b _,_,hx | .i _ _,_,hx | .s _,_,hx | .pn,_,hx | .sn,_,hx | .nf,_,hx | .ni,_,hx | .ai _ _ _,_,hx | .unk,_,hx=>by simpa only [V.kill,VR] using hx
 | .p c o,x,hx=>by
  simp only [VR] at hx;obtain ⟨q,C,rfl⟩:=hx;simp only [V.kill];cases hc:isIn K c with
  | true=>simp [VR,Value.cells,Value.oneCell']
  | false=>simp only [af,VR];exact ⟨q,h c hc _ C,rfl⟩
 | .mp c,x,hx=>by
  simp only [VR] at hx;obtain ⟨q,C,rfl⟩:=hx;simp only [V.kill];cases hc:isIn K c with
  | true=>simp [VR,Value.cells,Value.oneCell']
  | false=>simp only [af,VR];exact ⟨q,h c hc _ C,rfl⟩
 | .pr z c j o,x,hx=>by
  simp only [VR] at hx;obtain ⟨q,C,rfl⟩:=hx;simp only [V.kill];cases hc:isIn K c with
  | true=>simp [VR,Value.cells,Value.oneCell']
  | false=>simp only [af,VR];exact ⟨q,h c hc _ C,rfl⟩
 | .sl c o n m,x,hx=>by
  simp only [VR] at hx;obtain ⟨q,cp,C,E,O,rfl⟩:=hx;simp only [V.kill];cases hc:isIn K c with
  | true=>simp [VR,Value.cells,Value.oneCell']
  | false=>simp only [af,VR];exact ⟨q,cp,h c hc _ C,E,O,rfl⟩
 | .ws c,x,hx=>by
  simp only [VR] at hx;simp only [V.kill];cases hc:isIn K c with
  | true=>rcases hx with ⟨q,C,rfl⟩ | ⟨C,F,rfl⟩<;>simp [VR,Value.cells,Value.oneCell']
  | false=>
   simp only [af,VR];rcases hx with ⟨q,C,rfl⟩ | ⟨C,F,rfl⟩
   ·exact .inl ⟨q,h c hc _ C,rfl⟩
   ·exact .inr ⟨h c hc _ C,F,rfl⟩
 | .rs z c j n _,x,hx=>by
  simp only [VR] at hx;simp only [V.kill];cases hc:isIn K c with
  | true=>rcases hx with ⟨q,cp,o,C,E,O,rfl⟩ | ⟨C,E,F,rfl⟩<;>simp [VR,Value.cells,Value.oneCell']
  | false=>
   simp only [af,VR];rcases hx with ⟨q,cp,o,C,E,O,rfl⟩ | ⟨C,E,F,rfl⟩
   ·exact .inl ⟨q,cp,o,h c hc _ C,E,O,rfl⟩
   ·exact .inr ⟨h c hc _ C,E,F,rfl⟩
 | .fn f cap,x,hx=>by
  simp only [V.kill,VR] at hx ⊢;obtain ⟨G,C,E⟩:=hx;exact ⟨G,C,VRs.kill h _ _ E⟩
 | .it t v,x,hx=>by
  simp only [V.kill,VR] at hx ⊢;obtain ⟨y,C,E⟩:=hx;exact ⟨y,C,VR.kill h _ _ E⟩
 | .ag l,x,hx=>by
  simp only [V.kill,VR] at hx ⊢;obtain ⟨G,C,E⟩:=hx;exact ⟨G,C,VRs.kill h _ _ E⟩
 | .tp l,x,hx=>by
  simp only [V.kill,VR] at hx ⊢;obtain ⟨G,C,E⟩:=hx;exact ⟨G,C,VRs.kill h _ _ E⟩
theorem VRs.kill {ι C:Inj} {K:List Nat} (h:∀b,isIn K b=false->∀q,ι b=some q->C b=some q):∀(l:List V) (E:List Value),VRs ι l E->VRs C (V.kills K l) E
 | [],_,hx=>by simpa [V.kills,VRs] using hx
 | v::l,E,hx=>by
  simp only [V.kills,VRs] at hx ⊢;obtain ⟨y,O,G,F,J⟩:=hx;exact ⟨y,O,G,VR.kill h _ _ F,VRs.kill h _ _ J⟩
end
theorem BR.kill {ι E:Inj} {K:List Nat} (h:∀b,isIn K b=false->∀q,ι b=some q->E b=some q) {q:Rf}:∀{blk:Blk} {o:Obj},BR ι q blk o->BR E q (blk.kill K) o
 | .dead,_,_=>trivial
 | .rows t l,o,C=>C
 | .cells l,o,C=>by
  obtain ⟨F,e,fr,J,G,O⟩:=C;exact ⟨F,e,fr,J,VRs.kill h _ _ G,O⟩
 | .ints k n l,o,C=>C
 | .iter s pos,o,C=>C
 | .mp k l,o,C=>C
theorem vg (K:List Nat):∀(T:List (Nat×Option V)) (t:Nat),look (vS K T) t=(look T t).map (Option.map (V.kill K))
 | [],t=>rfl
 | (u,none)::T,t=>by
  simp only [vS,aX,vg K T];split<;>rfl
 | (u,some v)::T,t=>by
  simp only [vS,aX,vg K T];split<;>rfl
theorem vi (K:List Nat):∀(H:List (Nat×Blk)) (b:Nat),look (AT K H) b=(look H b).map (Blk.kill K)
 | [],t=>rfl
 | (u,v)::T,t=>by
  simp only [AT,aX,vi K T];split<;>rfl
theorem TR.kill {ι C:Inj} {K:List Nat} (h:∀b,isIn K b=false->∀q,ι b=some q->C b=some q) {T:List (Nat×Option V)} {G:Array Value} (J:TR ι T G):TR C (vS K T) G:=by
 intro t v E;rw [vg] at E;cases F:look T t with
 | none=>simp [F] at E
 | some o=>
  cases o with
  | none=>simp [F] at E
  | some u=>
   simp only [F,fi,aw] at E;subst E;obtain ⟨x,Q,O⟩:=J t u F;exact ⟨x,Q,VR.kill h _ _ O⟩
mutual
theorem V.kill_nil:∀v:V,V.kill [] v=v
 | .b _ | .i _ _ | .s _ | .pn | .sn | .nf | .ni | .ai _ _ _ | .unk | .p _ _ | .pr _ _ _ _ | .sl _ _ _ _ | .ws _ | .rs _ _ _ _ _ | .mp _=>rfl
 | .fn f l | .ag l | .tp l=>by simp only [V.kill,V.kills_nil l]
 | .it t v=>by simp only [V.kill,V.kill_nil v]
theorem V.kills_nil:∀l:List V,V.kills [] l=l
 | []=>rfl
 | v::l=>by simp only [V.kills,V.kill_nil v,V.kills_nil l]
end
theorem uo:∀H:List (Nat×Blk),AT [] H=H
 | []=>rfl
 | (b,x)::H=>by
  simp only [AT,uo H];cases x<;>simp only [Blk.kill,V.kills_nil]
theorem yb:∀T:List (Nat×Option V),vS [] T=T
 | []=>rfl
 | (b,none)::T=>by simp only [vS,yb T]
 | (b,some x)::T=>by simp only [vS,yb T,V.kill_nil]
theorem St.kill_eq (K:List Nat) (s:St):s.kill K={ T:=vS K s.T,H:=AT K s.H,nb:=s.nb,lo:=s.lo,ro:=s.ro,rb:=s.rb }:=by
 cases K with
 | nil=>simp only [St.kill,yb,uo]
 | cons b K=>rfl
def X1 (P:Program) (f:Nat) (args:List V) (r:CR):Prop:=
 r.pan=false/\r.wr=[]/\r.grow=0/\r.kill=[]/\∀(ι:Inj) (w:World) (a:Array Value),VRs ι args a.toList->∃x,(callFunc f a).run P w=.ok (.value x) w/\VR ι r.val x
def GoOK (P:Program) (f:Nat) (args:List V) (H:List (Nat×Blk)) (fr:Nat) (r:CR):Prop:=(me P f/\HA P f args H fr r)\/X1 P f args r
def ge (P:Program) (x:Ent):Prop:=
 ∀(α:Type) (args:List V) (H:List (Nat×Blk)) (fr:Nat) (k:CR->Option α) (z:α),x.e α args H fr k=some z->
  ∃r,k r=some z/\∀a,(∀b∈r.rd,look a b=look H b)->GoOK P x.f args a fr r
theorem wn {α:Type} {f:Nat} {args:List V} {H:List (Nat×Blk)} {fr:Nat} {k:CR->Option α} {z:α}:∀{E:List Ent},(∀x∈E,ge P x)->J3 α f args H fr k E=some z->
  ∃r,k r=some z/\∀c,(∀b∈r.rd,look c b=look H b)->GoOK P f args c fr r
 | [],_,h=>by simp [J3] at h
 | x::E,d,h=>by
  simp only [J3] at h;cases a:Nat.beq x.f f with
  | true=>
   rw [a] at h;have e:=bB a;subst e;exact d x (by simp) α args H fr k z h
  | false=>
   rw [a] at h;exact wn (λy hy=>d y (fN _ hy)) h
def ExR (ι:Inj):Ex->Exit->Prop
 | .normal,e=>e=.normal
 | .exit id,e=>e=.exit id
 | .ret,e=>e=.ret
 | .pan v,e=>∃x,e=.panic [{ v:=x,recovered:=false }]/\VR ι v x
def Post (n:Nat) (ι0:Inj) (w0:Base) (b:Ex->St->Prop):Exit->Act->World->Prop:=
 λe a w=>∃ex s ι,ExR ι ex e/\Inv n ι0 w0 ι s a w/\b ex s
def SemC (P:Program) (n:Nat) (c:Code) (s:St) (b:Ex->St->Prop):Prop:=
 ∀(ι0:Inj) (w0:Base) (ι:Inj) (a:Act) (w:World),Inv n ι0 w0 ι s a w->c.wp P (Post n ι0 w0 b) a w
def jV (P:Program) (n:Nat) (L:List Sub):AC->Prop
 | .seq a b | .cond _ a b=>jV P n L a/\jV P n L b
 | .block _ a | .scope a | .loop a=>jV P n L a
 | .sub m c=>∀(α:Type) (s:St) (k:Ex->St->Option α) (z:α),JD α m s k L=some z->SemC P n c.code s λex s'=>k ex s'=some z
 | _=>True
theorem Fr.trans {ι0 J:Inj} {w0 w w':World} (h:Fr ι0 w0 w) (W:∀b q,J b=some (some q)->(∃G,ι0 b=some (some G)/\G.r=q.r)\/w0.heap.size<=q.r) (E:Fr J w w'):Fr ι0 w0 w':=by
 refine ⟨E.os.trans h.os,E.tape.trans h.tape,E.output.trans h.output,rF h.size E.size,λk C F=>?_⟩;rw [E.blk k (oU C h.size) ?_,h.blk k C F];intro b q U;rcases W b q U with ⟨G,O,Q⟩ | O
 ·rw [<-Q];exact F b G O
 ·omega
theorem nh (a:Act) (d:Option Nat) (v:Value):(a.put d v).tmps.size=a.tmps.size:=by
 cases d<;>simp [Act.put]
theorem jO (a:Act) (d:Option Nat) (v:Value):(a.put d v).defers=a.defers:=by
 cases d<;>rfl
theorem TR.app {ι:Inj} {s:St} {a:Act} {n:Nat} {d:Option Nat} {v:Option V} {x:Value} {wr:List (Nat×Blk)} {nb:Nat} (C:TR ι s.T a.tmps) (hs:a.tmps.size=n) (F:vt n d=true)
  (E:∀u,v=some u->VR ι u x):TR ι (s.app d v wr nb).T (a.put d x).tmps:=by
 cases d with
 | none=>exact C
 | some d=>exact C.put (by rw [hs];exact aN F) E
theorem Inv.drawn {n:Nat} {ι0 ι:Inj} {w0:Base} {s:St} {a:Act} {w:World} (h:Inv n ι0 w0 ι s a w) (m:Nat):Inv n ι0 w0 ι s a { w with drawn:=m }:=
 ⟨h.size,h.defers,h.tmps,h.mem.draws m,h.ext,h.new,h.fr.draws m,h.low,h.fz,h.gl⟩
theorem It {n fr:Nat} {ι0 ι:Inj} {w0:Base} {s:St} {o:Oper} {a:Act} {w:World} {e:Eff} (f:Inv n ι0 w0 ι s a w) (K:ι fr=none) (A:vt n o.dst=true)
  (h:gH P ι fr o a w e) (m:e.new=false->∀H,e.wr=some H->s.ro<=H.1) {next:Act->World->Prop} {Q:Exit->Act->World->Prop}
  (C:∀g J w',(∀b,b≠fr->g b=ι b)->(e.new=false\/e.wr=none->g fr=ι fr)->
   Inv n ι0 w0 g (s.app o.dst e.val e.wr.toList (if e.new=true/\e.wr≠none then max s.nb (fr+1) else s.nb)) J w'->next J w'):
  o.wp P a w next Q:=by
 have fin:∀{x:Next} {w':World} {g:Inj},(execOp a.eval o).run P w=.ok x w'->NextR g e.val x->(∀y,(∀u,e.val=some u->VR g u y)->next (a.put o.dst y) w')->o.wp P a w next Q:=by
  intro x w' g E hx hy;unfold Oper.wp;rw [E];cases hx with
  | skip F=>exact hy _ (λu I=>by rw [F] at I;cases I)
  | value x F=>exact hy _ F
 unfold gH at h;split at h
 ·rename_i k;obtain ⟨x,l,v⟩:=h;refine fin l v λy hy=>C ι _ _ (λ_ _=>rfl) (λ_=>rfl) ?_;rw [k];simp only [ne_eq,vw,and_false,aG];exact ⟨by rw [nh];exact f.size,by rw [jO];exact f.defers,f.tmps.app f.size A hy,f.mem,f.ext,f.new,f.fr,f.low,f.fz,f.gl⟩
 ·rename_i b blk k;split at h
  ·rename_i i;obtain ⟨r,l,M⟩:=h;have t:r.fz=false:=by
    cases hc:r.fz with
    | false=>rfl
    | true=>have:=f.fz b r l hc;have:=m i _ k;simp only at this;omega
   obtain ⟨ob,x,v,B,z⟩:=M t;refine fin v z λy hy=>C ι _ _ (λ_ _=>rfl) (λ_=>rfl) ?_;rw [k,i];simp only [bs,yA,aG];refine ⟨by rw [nh];exact f.size,by rw [jO];exact f.defers,f.tmps.app f.size A hy,f.mem.write l t B,f.ext,f.new,?_,f.low,f.fz,f.gl⟩;exact f.fr.write ((f.new b r l).imp (λ⟨L,h,E⟩=>⟨b,L,Eh h (m i _ k),E⟩) id) _
  ·rename_i i;obtain ⟨rfl,d,q,ob,x,v,G,D,B,z⟩:=h;have j:=qj (r:=some q) K;refine fin v z λy hy=>C (upd ι b (some q)) _ _ (λc hc=>by simp [upd,hc]) (λhc=>by rw [i,k] at hc;simp at hc) ?_;rw [k,i];simp only [ne_eq,reduceCtorEq,Gt,and_self,aM]
   refine ⟨by rw [nh];exact f.size,by rw [jO];exact f.defers,(f.tmps.mono j).app f.size A hy,(f.mem.draws d).alloc K (by simp only [St.app];omega) (by simp only [St.app];omega) G B,λc q hc=>(f.ext c q hc).imp (j _ _) id,λc q hc=>?_,(f.fr.draws d).alloc ob,f.low,λc p hc hp=>by
    unfold upd at hc;split at hc
    ·simp only [aw] at hc;subst hc;rw [D] at hp;cases hp
    ·exact f.fz c p hc hp,f.gl⟩
   unfold upd at hc;split at hc
   ·simp only [aw] at hc;subst hc;exact .inr (by rw [G];exact f.fr.size)
   ·exact f.new c q hc
theorem Inv.phantom' {n:Nat} {ι0 ι:Inj} {w0:Base} {s:St} {a:Act} {w:World} (E:Inv n ι0 w0 ι s a w) {g:Nat} (W:ι g=none) {nb:Nat} (U:s.nb<=nb) (Y:g<nb) (tr:List Lf):
  Inv n ι0 w0 (upd ι g none) { T:=s.T,H:=(g,.rows tr [])::s.H,nb:=nb,lo:=s.lo,ro:=s.ro,rb:=s.rb } a w:=by
 have G:=qj (r:=none) W;have F:∀b,b≠g->upd ι g none b=ι b:=λb J=>by simp [upd,J]
 have C:∀b q,upd ι g none b=some (some q)->ι b=some (some q):=by
  intro b q h;by_cases J:b=g
  ·subst J;rw [dJ] at h;cases h
  ·rwa [F b J] at h
 refine ⟨E.size,E.defers,E.tmps.mono G,⟨λb b' q X e1 Z=>E.mem.inj b b' q X (C _ _ e1) (C _ _ Z),λb q e=>?_,λb q e=>E.mem.dom b q (C _ _ e),λb y O hd=>?_⟩,
  λb q e=>(E.ext b q e).imp (G _ _) id,λb q e=>E.new b q (C _ _ e),E.fr,E.low,λb q e=>E.fz b q (C _ _ e),E.gl⟩
 ·by_cases J:b=g
  ·subst J;exact Y
  ·rw [F b J] at e;exact oU (E.mem.low b q e) U
 ·rw [aX] at O;split at O
  ·rename_i e;subst e;simp only [aw] at O;subst O;exact .inr ⟨dJ _ _ _,tr,rfl⟩
  ·rename_i Q;exact (E.mem.blk b y O hd).map (F b (λe=>Q e.symm)) (λ_ _=>rfl) (λ_ _ h=>BR.mono G h) (λ_ h=>h)
theorem Inv.setnb {n:Nat} {ι0 ι:Inj} {w0:Base} {s:St} {a:Act} {w:World} (C:Inv n ι0 w0 ι s a w) {nb:Nat} (h:s.nb<=nb):
  Inv n ι0 w0 ι { T:=s.T,H:=s.H,nb:=nb,lo:=s.lo,ro:=s.ro,rb:=s.rb } a w:=
 ⟨C.size,C.defers,C.tmps,⟨C.mem.inj,λb q e=>oU (C.mem.low b q e) h,C.mem.dom,C.mem.blk⟩,C.ext,C.new,C.fr,C.low,C.fz,C.gl⟩
theorem Ss {ι:Inj} {g:Nat} (a:ι g=some none) {x:Value} (h:VR ι .sn x):VR ι (.ws g) x:=by
 simp only [VR] at h ⊢;exact .inr ⟨a,none,h⟩
theorem B8:∀(ns:List (Nat×List Lf)) (g:Nat) (l:List V) (acc:List (Nat×Blk)) (o:List V) (H:List (Nat×Blk)),nilL g ns l acc=(o,H)->∃k,H=k++acc/\
  ∀{n:Nat} {ι0 ι:Inj} {w0:Base} {s:St} {a:Act} {w:World},Inv n ι0 w0 ι s a w->(∀b,g<=b->b<g+k.length->ι b=none)->∀nb,s.nb<=nb->(k=[]\/g+k.length<=nb)->
   ∃c,(∀b,(b<g\/g+k.length<=b)->c b=ι b)/\(∀b q,ι b=some q->c b=some q)/\(∀m,VRs c l m->VRs c o m)/\
    Inv n ι0 w0 c { T:=s.T,H:=k++s.H,nb:=nb,lo:=s.lo,ro:=s.ro,rb:=s.rb } a w
 | [],g,l,acc,o,H,h=>by
  simp only [nilL,bG] at h;obtain ⟨rfl,rfl⟩:=h;exact ⟨[],rfl,λ{n ι0 ι w0 s a w} A d nb y v=>⟨ι,λ_ _=>rfl,λ_ _ h=>h,λ_ h=>h,A.setnb y⟩⟩
 | (i,tr)::r,g,l,acc,o,H,h=>by
  simp only [nilL] at h;split at h
  ·rename_i hi;obtain ⟨u,rfl,E⟩:=B8 r (g+1) _ _ _ _ h;refine ⟨u++[(g,.rows tr [])],by simp,λ{n ι0 ι w0 s a w} A d nb y v=>?_⟩;have p:(u++[((g,.rows tr []):Nat×Blk)]).length=u.length+1:=by simp
   rw [p] at d v ⊢;have v:g+(u.length+1)<=nb:=v.resolve_left (by simp);have C:=d g (bi _) (by omega);have t:=qj (r:=none) C
   obtain ⟨c,k1,k2,k3,k4⟩:=E (A.phantom' C y (by omega) tr) (λb F G=>by
    have:upd ι g none b=ι b:=by simp [upd,show b≠g by omega]
    rw [this];exact d b (by omega) (by omega)) nb (bi _) (.inr (by omega))
   refine ⟨c,λb B=>?_,λb q B=>k2 b q (t b q B),λm hx=>k3 m ?_,by simpa using k4⟩
   ·rw [k1 b (by omega)];simp [upd,show b≠g by omega]
   ·obtain ⟨x,f,z⟩:=hx.get hi;have:=hx.set i (Ss (g:=g) (k2 _ _ (dJ _ _ _)) z);rwa [show m.set i x=m from by
     apply zZ;intro j;rw [List.getElem?_set];split
     ·rename_i e;subst e;split
      ·exact f.symm
      ·rename_i D;rw [fV (by omega)] at f;cases f
     ·rfl] at this
  ·exact B8 r g l acc o H h
theorem Tm {α:Type} (l m:List (Nat×α)) (n:Nat):look (l++m) n=(look l n).or (look m n):=by
 induction l with
 | nil=>rfl
 | cons x l ih=>
  obtain ⟨k,v⟩:=x;rw [eK,aX,aX,ih];split<;>rfl
theorem Inv.reH {n:Nat} {ι0 ι:Inj} {w0:Base} {T:List (Nat×Option V)} {A B:List (Nat×Blk)} {b nb lo ro rb:Nat} {l J:List V} {a:Act} {w:World}
  (E:Inv n ι0 w0 ι ⟨T,A++(b,.cells l)::B,nb,lo,ro,rb⟩ a w) (h:∀O,VRs ι l O->VRs ι J O):Inv n ι0 w0 ι ⟨T,A++(b,.cells J)::B,nb,lo,ro,rb⟩ a w:=by
 refine ⟨E.size,E.defers,E.tmps,⟨E.mem.inj,E.mem.low,E.mem.dom,λc y hc Q=>?_⟩,E.ext,E.new,E.fr,E.low,E.fz,E.gl⟩;have C:=E.mem.blk c;rw [Tm,aX] at hc C;cases G:look A c with
 | some z=>rw [G] at hc C;exact C y hc Q
 | none=>
  rw [G] at hc C;simp only [FO] at hc C;split at hc
  ·rename_i e;rw [ae e] at C;simp only [aw] at hc;subst hc;rcases C _ rfl (by simp) with ⟨q,o,Y,F,h3⟩ | ⟨_,t,F⟩
   ·obtain ⟨U,X,fr,W,g2,Z⟩:=h3;exact .inl ⟨q,o,Y,F,U,X,fr,W,h _ g2,Z⟩
   ·cases F
  ·rename_i e;rw [ab e] at C;exact C y hc Q
theorem Inv.reT {n:Nat} {ι0 ι:Inj} {w0:Base} {s:St} {wr:List (Nat×Blk)} {d:Option Nat} {nb:Nat} {v J:V} {a:Act} {w:World}
  (E:Inv n ι0 w0 ι (s.app d (some v) wr nb) a w) (h:∀x,VR ι v x->VR ι J x):Inv n ι0 w0 ι (s.app d (some J) wr nb) a w:=by
 refine ⟨E.size,E.defers,?_,E.mem,E.ext,E.new,E.fr,E.low,E.fz,E.gl⟩;have G:=E.tmps;cases d with
 | none=>exact G
 | some d=>
  intro t u F;have C:=G t;simp only [St.app,aX] at F C;split at F
  ·rename_i e;rw [ae e] at C;simp only [aw] at F;subst F;obtain ⟨x,Q,O⟩:=C v rfl;exact ⟨x,Q,h x O⟩
  ·rename_i e;rw [ab e] at C;exact C u F
theorem U1 {P:Program} {t:TypeId} {g:Nat} {v m:V} {f:List (Nat×Blk)} (h:nilV P t g v=(m,f)) {n:Nat} {ι0 ι:Inj} {w0:Base} {s:St} {d:Option Nat} {nb0:Nat} {a:Act} {w:World}
  (q:Inv n ι0 w0 ι (s.app d (some v) [] nb0) a w) (k:∀b,g<=b->b<g+f.length->ι b=none) {nb:Nat} (p:nb0<=nb) (o:f=[]\/g+f.length<=nb):
  ∃c,(∀b,(b<g\/g+f.length<=b)->c b=ι b)/\Inv n ι0 w0 c (s.app d (some m) f nb) a w:=by
 have j:(v,([]:List (Nat×Blk)))=(m,f)->∃c,(∀b,(b<g\/g+f.length<=b)->c b=ι b)/\Inv n ι0 w0 c (s.app d (some m) f nb) a w:=by
  intro e;simp only [bG] at e;obtain ⟨rfl,rfl⟩:=e;exact ⟨ι,λ_ _=>rfl,q.setnb p⟩
 unfold nilV at h;split at h
 ·split at h
  ·rename_i i tr r G;simp only [bG] at h;obtain ⟨rfl,rfl⟩:=h;have E:=k g (bi _) (by simp);have o:g+1<=nb:=by simpa using o
   have:=q.phantom' E p o tr;exact ⟨upd ι g none,λb u=>by simp only [List.length_singleton] at u;simp [upd,show b≠g by omega],Inv.reT (s:=s) (wr:=[(g,.rows tr [])]) (v:=.sn) this λx hx=>Ss (dJ _ _ _) hx⟩
  ·exact j h
 ·rename_i l;split at h;rename_i F B C;simp only [bG] at h;obtain ⟨rfl,rfl⟩:=h;obtain ⟨H,e,D⟩:=B8 _ _ _ _ _ _ C;rw [kC] at e;subst e;obtain ⟨c,k1,k2,k3,k4⟩:=D q k nb p o;refine ⟨c,k1,Inv.reT (s:=s) (wr:=B) (v:=.ag l) k4 λx hx=>?_⟩;simp only [VR] at hx ⊢;obtain ⟨A,y,z⟩:=hx;exact ⟨A,y,k3 _ z⟩
 ·exact j h
theorem Un (nb fr:Nat):∀g,g=0\/fr+g<=nbOf nb fr g
 | 0=>.inl rfl
 | _+1=>.inr (Nat.le_max_right _ _)
theorem yT {P:Program} {fr:Nat} {o:Oper} {e:Eff} {v:Option V} {wr:List (Nat×Blk)} {g:Nat} (h:zq P fr o e=(v,wr,g)) (c:g=0):e.new=false\/e.wr=none:=by
 unfold zq at h;split at h
 ·rename_i b;exact .inr b
 ·split at h
  ·rename_i a;exact .inl a
  ·split at h
   ·split at h;simp only [bG] at h;omega
   ·simp only [bG] at h;omega
theorem ON {P:Program} {fr nb:Nat} {o:Oper} {e:Eff} {v:Option V} {wr:List (Nat×Blk)} {g:Nat} (h:zq P fr o e=(v,wr,g)):
  (if e.new=true/\e.wr≠none then max nb (fr+1) else nb)<=nbOf nb fr g:=by
 cases g with
 | zero=>
  have:=yT h rfl;rw [ab (λhc=>by rcases this with h | h;rw [h] at hc;cases hc.1;exact hc.2 h)];exact bi _
 | succ g=>
  simp only [nbOf];split<;>omega
theorem gH.new_eq {ι:Inj} {f:Nat} {o:Oper} {a:Act} {w:World} {e:Eff} (h:gH P ι f o a w e) {C:Nat×Blk} (F:e.wr=some C) (E:e.new=true):C.1=f:=by
 unfold gH at h;rw [F] at h;simp only [E] at h;exact h.1
theorem Ea {P:Program} {fr:Nat} {o:Oper} {e:Eff} {v:Option V} {wr:List (Nat×Blk)} {g:Nat} (h:zq P fr o e=(v,wr,g)) {n:Nat} {ι0 ι:Inj} {w0:Base} {s:St} {nb0 nb:Nat} {a:Act} {w:World}
  (k:Inv n ι0 w0 ι (s.app o.dst e.val e.wr.toList nb0) a w) (r:∀b,fr<=b->b<fr+g->(b=fr->e.wr=none)->ι b=none) (E:∀m,e.wr=some m->e.new=true->m.1=fr) (y:nb0<=nb) (D:g=0\/fr+g<=nb):
  ∃f,(∀b,(b<fr\/fr+g<=b)->f b=ι b)/\Inv n ι0 w0 f (s.app o.dst v wr nb) a w:=by
 have i:(e.val,e.wr.toList)=(v,wr)->∃f,(∀b,(b<fr\/fr+g<=b)->f b=ι b)/\Inv n ι0 w0 f (s.app o.dst v wr nb) a w:=by
  intro e;simp only [bG] at e;obtain ⟨rfl,rfl⟩:=e;exact ⟨ι,λ_ _=>rfl,k.setnb y⟩
 unfold zq at h;split at h
 ·rename_i j;rw [j] at k i;split at h
  ·rename_i t u O G;split at h;rename_i Q H F;simp only [bG] at h;obtain ⟨rfl,rfl,rfl⟩:=h;rw [G] at k;obtain ⟨f,k1,k2⟩:=U1 F (d:=o.dst) (s:=s) k (λb x I=>r b x I λ_=>j) y (D.imp (λh=>s8 h) id);exact ⟨f,k1,k2⟩
  ·simp only [bG] at h;exact i (by simp [h.1,h.2.1])
 ·rename_i m j;rw [j] at i;split at h
  ·simp only [bG] at h;exact i (by simp [h.1,h.2.1])
  ·rename_i z;split at h
   ·rename_i t l S p;split at h;rename_i L H J;simp only [bG] at h;obtain ⟨rfl,rfl,rfl⟩:=h;obtain ⟨R,C,K⟩:=B8 _ _ _ _ _ _ J;rw [kC] at C;subst C;rw [j] at k;have x:=E m j z;obtain ⟨b,blk⟩:=m;simp only at p x;subst p x;obtain ⟨f,k1,k2,k3,k4⟩:=K k (λc M N=>r c (by omega) (by omega) (λq=>by omega)) nb y (D.elim (λh=>by omega) λh=>.inr (by omega));refine ⟨f,λc hc=>k1 c (by omega),?_⟩;have:=Inv.reH (A:=H) (B:=s.H) (b:=b) k4 k3;simpa [St.app] using this
   ·simp only [bG] at h;exact i (by simp [h.1,h.2.1])
theorem RX {ι:Inj} {T:List (Nat×Option V)} {a:Act} (c:TR ι T a.tmps) {g:Operand} {f:Nat} {cap:List V} (h:opd T g=some (.fn f cap)):
  ∃b:Array Value,a.eval g=fnV f b/\VRs ι cap b.toList:=by
 have:=bu c h;simpa only [VR] using this
theorem zE {wr:List (Nat×Blk)} {ι:Inj} {b:Nat} {r:Option Rf} (h:vI wr ι b=some r):∃x∈wr,x.1=b:=by
 unfold vI at h;split at h
 ·rename_i a;obtain ⟨x,hx,c⟩:=sK.1 a;exact ⟨x,hx,bB c⟩
 ·cases h
theorem DW (wr:List (Nat×Blk)) (ι:Inj):∀b r,vI wr ι b=some r->ι b=some r:=by
 intro b r h;unfold vI at h;split at h
 ·exact h
 ·cases h
theorem PY {K f:Nat} {ι:Inj} {o:Oper} {a:Act} {g:Operand} {args:Array Operand} {d:Array TypeId} {c:Array Value} {cap l:List V} (h:o.op=.call ⟨.value g,args,d⟩)
  (b:a.eval g=fnW K f c) (e:VRs ι cap c.toList) (i:VRs ι l (args.toList.map a.eval)) (w:World):
  ∃as:Array Value,VRs ι (fnAW K f l cap) as.toList/\(execOp a.eval o).run P w=(callFunc (fnFW K f) as).run P w:=by
 unfold fnAW fnFW;unfold fnW at b;cases j:Nat.blt f K<;>rw [j] at b<;>simp only at b ⊢
 ·refine ⟨c++args.map a.eval,by simpa using e.append i,?_⟩;simp only [execOp,h,resolve,b,Deferred.ofValue,Array.append_empty,az,aF,aB,invoke]
 ·refine ⟨args.map a.eval++c,by simpa using i.append e,?_⟩;simp only [execOp,h,resolve,b,Deferred.ofValue,Array.empty_append,az,aF,aB,invoke]
theorem BP {n fr:Nat} {ι0 ι:Inj} {w0:Base} {s:St} {o:Oper} {a:Act} {w:World} {g:Operand} {args:Array Operand} {W:Array TypeId} {f:Nat} {cap l:List V} {r:CR}
  (ho:o.op=.call ⟨.value g,args,W⟩) (d:Inv n ι0 w0 ι s a w) (K:∀b,fr<=b->b<fr+r.grow->ι b=none) (hd:vt n o.dst=true)
  (hg:opd s.T g=some (.fn f cap)) (hl:opds (opd s.T) args.toList=some l) (B:r.wr.all (λx=>Nat.ble s.ro x.1)=true)
  (A:r.kill.all (λb=>Nat.ble s.rb b)=true) (hc:GoOK P (fnF f) (fnA f l cap) s.H fr r)
  {next:Act->World->Prop} {Q:Exit->Act->World->Prop}
  (Y:r.pan=false->∀i a' w',(∀b,isIn r.kill b=false->(b<fr\/fr+r.grow<=b)->i b=ι b)->Inv n ι0 w0 i ((s.kill r.kill).app o.dst (some r.val) r.wr (max s.nb (fr+r.grow))) a' w'->next a' w')
  (hp:r.pan=true->∀i x w',VR i r.val x->Inv n ι0 w0 i ((s.kill r.kill).app none none r.wr (max s.nb (fr+r.grow))) a w'->Q (.panic [{ v:=x,recovered:=false }]) a w'):
  o.wp P a w next Q:=by
 obtain ⟨cs,N,h2⟩:=RX d.tmps hg;have h3:=wV d.tmps hl;obtain ⟨as,I,t⟩:=PY (P:=P) ho (show a.eval g=fnW 1000000 f cs from N) h2 h3 w;rcases hc with ⟨hE,hc⟩ | ⟨a1,a2,a3,a4,J⟩
 case inr=>
  obtain ⟨x,C,hx⟩:=J ι w as I;have k:(execOp a.eval o).run P w=.ok (.value x) w:=by rw [t];exact C
  unfold Oper.wp;rw [k];refine Y a1 ι _ _ (λ_ _ _=>rfl) ?_;rw [a2,a3,a4,cH];refine ⟨by rw [nh];exact d.size,by rw [jO];exact d.defers,TR.app (s:=s) d.tmps d.size hd (λu hu=>by cases hu;exact hx),?_,d.ext,d.new,d.fr,d.low,d.fz,d.gl⟩;exact ⟨d.mem.inj,λb q F=>oU (d.mem.low b q F) (FG _ _),d.mem.dom,d.mem.blk⟩
 have k:(execOp a.eval o).run P w=.ok (.enter (fnF f) as) w:=by rw [t];exact hE _ _
 unfold Oper.wp;rw [k];simp only [Oper.upon];refine (hc ι s.nb w as d.mem (d.glHere λb q j=>by
  obtain ⟨x,hx,rfl⟩:=zE j;exact ⟨DW r.wr ι x.1 _ j,aN (bW.1 B x hx)⟩) (λx hx q F=>by
  cases hc:q.fz with
  | false=>rfl
  | true=>have:=d.fz x.1 q F hc;have:=aN (bW.1 B x hx);omega) (λb U hb2=>K b U (by omega)) I).mono λe w' h=>?_
 obtain ⟨i,S,g0,g2,g6,g3,g4,Z⟩:=h;have G:∀b q,i b=some (some q)->q.fz=true->b<s.ro:=λb q j F=>d.fz b q (g6 b q j F) F;have L:∀b,isIn r.kill b=true->s.rb<=b:=by
  intro b j;obtain ⟨c,hc1,M⟩:=sK.1 j;rw [bB M];exact aN (bW.1 A c hc1)
 have y:∀b,isIn r.kill b=false->∀q,ι b=some q->i b=some q:=by
  intro b D q j;rw [S b D ?_];exact j;rcases aI b fr with h | h
  ·exact .inl h
  ·rcases aI b (fr+r.grow) with h' | h'
   ·have:=K b h (by omega);rw [this] at j;cases j
   ·exact .inr h'
 have m:∀b q,ι0 b=some q->i b=some q\/s.rb<=b:=by
  intro b q j;rcases d.ext b q j with h | h
  ·cases D:isIn r.kill b with
   | true=>exact .inr (L b D)
   | false=>exact .inl (y b D q h)
  ·exact .inr h
 have p:∀b q,i b=some (some q)->(∃E,ι0 b=some (some E)/\E.r=q.r)\/w0.w.heap.size<=q.r:=by
  intro b q j;cases D:isIn r.kill b with
  | true=>
   rcases g0 b q D j with ⟨E,X,h7⟩ | X
   ·rw [<-h7];exact d.new b E X
   ·exact .inr (rF d.fr.size X)
  | false=>
   by_cases R:b<fr\/fr+r.grow<=b
   ·rw [S b D R] at j;exact d.new b q j
   ·have:=g2 b q (by omega) (by omega) j;exact .inr (rF d.fr.size this)
 have z:Fr (roI ι0 s.ro) w0.w w':=d.fr.trans (λb q j=>by
  obtain ⟨x,hx,rfl⟩:=zE j;have N:=aN (bW.1 B x hx);exact (d.new x.1 q (DW r.wr ι x.1 _ j)).imp (λ⟨E,h,hr⟩=>⟨E,Eh h N,hr⟩) id) g4
 have hT:=d.tmps.kill y;rw [St.kill_eq] at Y hp;cases e with
 | returned x=>
  obtain ⟨O,p2⟩:=Z;refine Y O i _ _ S ⟨by rw [nh];exact d.size,by rw [jO];exact d.defers,TR.app (s:={ T:=vS r.kill s.T,H:=AT r.kill s.H,nb:=s.nb,lo:=s.lo,ro:=s.ro,rb:=s.rb }) hT d.size hd (λu hu=>by cases hu;exact p2),g3,m,p,z,d.low,G,d.gl⟩
 | panicked chain=>
  obtain ⟨O,x,rfl,p2⟩:=Z;exact hp O i x _ p2 ⟨d.size,d.defers,hT,g3,m,p,z,d.low,G,d.gl⟩
 | outgrown=>exact Z.elim
theorem IY {α:Type} {E:List Ent} (hE:∀x∈E,ge P x) {n fr:Nat} {ι0 ι:Inj} {w0:Base} {s:St} {o:Oper} {a:Act} {w:World} (H:Inv n ι0 w0 ι s a w)
  (G:∀b,fr<=b->b<fr+8->ι b=none) {k:St->List Nat->List (Nat×Blk)->Nat->Option α} {kp:V->St->Option α} {z:α} (h:DD P E n fr o s k kp=some z)
  {next:Act->World->Prop} {Q:Exit->Act->World->Prop}
  (hn:∀s' rd wr g c p w',k s' rd wr g=some z->(∀b,(b<fr\/fr+g<=b)->c b=ι b)->Inv n ι0 w0 c s' p w'->next p w')
  (hp:∀v s' c x p w',kp v s'=some z->VR c v x->Inv n ι0 w0 c s' p w'->Q (.panic [{ v:=x,recovered:=false }]) p w'):
  o.wp P a w next Q:=by
 have Z:ι fr=none:=G fr (bi _) (by omega);unfold DD at h;split at h
 ·cases h
 rename_i hd;have L:ve P fr o s k=some z->o.wp P a w next Q:=by
  intro h;unfold ve at h;obtain ⟨e,N,J⟩:=LV H.tmps H.mem Z h;split at N;rename_i v wr g u;split at N
  case h_2=>cases N
  rename_i K;simp only [aD] at K;have T:=aN K.2;have D:∀O,e.wr=some O->e.new=true->O.1=fr:=λO W F=>gH.new_eq J W F;refine It H Z hd J (λF O W=>by
   have:=K.1;unfold roOK at this;rw [W] at this;simp only [F] at this;exact aN this) λc p w' B g2 d=>?_
  obtain ⟨Y,k1,k2⟩:=Ea u d (λb X e2 e3=>by
   by_cases i:b=fr
   ·subst i;rw [g2 (.inr (e3 rfl))];exact Z
   ·rw [B b i];exact G b X (by omega)) D (nb:=nbOf s.nb fr g) (ON u) (Un s.nb fr g)
  refine hn _ _ _ _ Y p w' N (λb S=>?_) k2;rw [k1 b S];by_cases i:b=fr
  ·subst i;refine g2 (yT u (by omega))
  ·exact B b i
 split at h
 ·rename_i cl A;split at h
  ·rename_i g q;split at h
   ·rename_i f cap hg;obtain ⟨l,hl,h⟩:=ay h;obtain ⟨r,I,h3⟩:=wn hE h;split at I
    ·cases I
    rename_i m;simp only [aD] at m;have C:r.kill=[]:=by simpa using m.2.2
    have T:=aN m.1;obtain ⟨R,args,tys⟩:=cl;simp only at q;subst q;refine BP A H (λb X e2=>G b X (by omega)) hd hg hl m.2.1 (by rw [C];rfl) (h3 _ λ_ _=>rfl) (λj c p w' B d=>?_) (λj c x w' B d=>?_)
    ·rw [j] at I;rw [C] at B d;exact hn _ _ _ _ c p w' I (λb K=>B b rfl K) d
    ·rw [j] at I;rw [C] at d;exact hp _ _ c x a w' I B d
   ·cases h
  ·exact L h
 ·rename_i x A;split at h
  ·rename_i t v hx;have U:=bu H.tmps hx;have hv':=U;simp only [VR] at U;obtain ⟨y,h6,_⟩:=U;unfold Oper.wp;have M:(execOp a.eval o).run P w=.halt (.panic (.iface t y)) w:=by
    simp only [execOp,A,h6,Instr.panic,az,run_goPanic,Result.andThen_halt]
   rw [M];exact hp _ _ ι _ a w h (h6▸hv') H
  ·cases h
 ·exact L h
theorem TR.again {ι:Inj} {T:List (Nat×Option V)} {F:Array Value} (E:TR ι T F) {d:Nat} {v:V} (G:look T d=some (some v)):TR ι ((d,some v)::T) F:=by
 intro t u C;rw [aX] at C;split at C
 ·rename_i e;subst e;simp only [aw] at C;subst C;exact E d v G
 ·exact E t u C
theorem Inv.again {n:Nat} {ι0 ι:Inj} {w0:Base} {s:St} {a:Act} {w:World} (h:Inv n ι0 w0 ι s a w) {d:Nat} {v:V} (C:look s.T d=some (some v)):
  Inv n ι0 w0 ι { s with T:=(d,some v)::s.T } a w:=
 ⟨h.size,h.defers,h.tmps.again C,h.mem,h.ext,h.new,h.fr,h.low,h.fz,h.gl⟩
theorem sg {ops:List Oper} {j d:Nat} (h:gtmp ops j=some d) (a:Array Value):
  yielded ops.toArray a j=match a[d]? with | some (.bool b)=>some b | _=>none:=by
 unfold gtmp at h;split at h
 ·rename_i o c;have:(ops.toArray[j]?).bind (·.dst)=some d:=by simp [c,h]
  unfold yielded;rw [this];rfl
 ·cases h
theorem LW {α:Type} {n:Nat} {ι0 ι:Inj} {w0:Base} {ops:List Oper} {o:Oper} {s:St} {a:Act} {w:World} (f:Inv n ι0 w0 ι s a w) {k:Bool->St->Option α} {z:α}
  (h:yH ops o s k=some z):∃c s',k c s'=some z/\Inv n ι0 w0 ι s' a w/\Region.wanted o (yielded ops.toArray a.tmps)=c/\(∀t,look s'.T t=look s.T t)/\s'.H=s.H/\s'.nb=s.nb:=by
 unfold yH at h;split at h
 ·rename_i i;exact ⟨true,s,h,f,by simp [Region.wanted,i],λ_=>rfl,rfl,rfl⟩
 ·rename_i j c i;split at h
  case h_2=>cases h
  rename_i d m;have hy:=sg m a.tmps;have again:∀x,look s.T d=some (some (.b x))->∀t,look ((d,some (V.b x))::s.T) t=look s.T t:=by
   intro x hx t;rw [aX];split
   ·rename_i e;subst e;exact hx.symm
   ·rfl
  split at h
  ·rename_i x hx;obtain ⟨y,l,g⟩:=f.tmps d _ hx;simp only [VR] at g;subst g;rw [l] at hy;cases x
   ·exact ⟨!c,_,h,f.again hx,by cases c<;>simp [Region.wanted,i,hy],again _ hx,rfl,rfl⟩
   ·exact ⟨c,_,h,f.again hx,by cases c<;>simp [Region.wanted,i,hy],again _ hx,rfl,rfl⟩
  ·rename_i hx;obtain ⟨y,l,g⟩:=f.tmps d _ hx;simp only [VR] at g;obtain ⟨p,rfl,_⟩:=g;rw [l] at hy;exact ⟨false,s,h,f,by simp [Region.wanted,i,hy],λ_=>rfl,rfl,rfl⟩
  ·cases h
theorem QQ (ι:Inj):VR ι (.tp []) undef:=by
 simp only [VR];exact ⟨#[],rfl,by simp [VRs]⟩
theorem Inv.skip {n:Nat} {ι0 ι:Inj} {w0:Base} {s:St} {a:Act} {w:World} (h:Inv n ι0 w0 ι s a w) {d:Option Nat} (E:vt n d=true):
  Inv n ι0 w0 ι (s.app d (some (.tp [])) [] s.nb) (a.put d undef) w:=
 ⟨by rw [nh];exact h.size,by rw [jO];exact h.defers,h.tmps.app h.size E (λu C=>by cases C;exact QQ ι),h.mem,h.ext,h.new,h.fr,h.low,h.fz,h.gl⟩
theorem Inv.fresh {n:Nat} {ι0 ι:Inj} {w0:Base} {s:St} {a:Act} {w:World} (h:Inv n ι0 w0 ι s a w):∀b,s.nb<=b->ι b=none:=by
 intro b C;cases hi:ι b with
 | none=>rfl
 | some r=>have:=h.mem.low b r hi;omega
end Go.Abs
