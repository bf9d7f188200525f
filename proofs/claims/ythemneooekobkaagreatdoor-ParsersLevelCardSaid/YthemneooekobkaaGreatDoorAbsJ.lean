
/- The interpreter is sound: what it comes to is what the model's code comes to.
   Conditions: none; generic over the program. -/
import Derived.Test.YthemneooekobkaaGreatDoorAbsI
set_option linter.unusedSimpArgs false
set_option linter.unusedVariables false
namespace Go.Abs
variable {P:Program}
def kG (P:Program) (f:Nat):Prop:=∀(args:Array Value) (w:World),(callFunc f args).run P w=.ok (.enter f args) w
def RetR (ι:Inj) (r:CR):Ending->Prop
 | .returned x=>r.pan=false/\VR ι r.val x
 | .panicked a=>r.pan=true/\∃x,a=[{ v:=x,recovered:=false }]/\VR ι r.val x
 | .outgrown=>False
def sJ (wr:List (Nat×Blk)) (ι:Inj):Inj:=λb=>if wr.any (λx=>Nat.beq x.1 b) then ι b else none
def Eb (P:Program) (f:Nat) (args:List V) (H:List (Nat×Blk)) (fr:Nat) (r:CR):Prop:=
 ∀(ι:Inj) (nb:Nat) (w:World) (d:Array Value),WR ι H nb w->GL (sJ r.wr ι) w->(∀x∈r.wr,∀q,ι x.1=some (some q)->q.fz=false)->(∀b,fr<=b->b<fr+r.grow->ι b=none)->VRs ι args d.toList->
  Calls P f d w λe w'=>∃a:Inj,(∀b,isIn r.kill b=false->(b<fr\/fr+r.grow<=b)->a b=ι b)/\
   (∀b q,isIn r.kill b=true->a b=some (some q)->(∃c,ι b=some (some c)/\c.r=q.r)\/w.heap.size<=q.r)/\(∀b q,fr<=b->b<fr+r.grow->a b=some (some q)->w.heap.size<=q.r)/\(∀b q,a b=some (some q)->q.fz=true->ι b=some (some q))/\
   WR a (r.wr++xI r.kill H) (max nb (fr+r.grow)) w'/\Fr (sJ r.wr ι) w w'/\RetR a r e
mutual
theorem VR.kill {ι O:Inj} {K:List Nat} (h:∀b,isIn K b=false->∀q,ι b=some q->O b=some q):∀(v:V) (x:Value),VR ι v x->VR O (V.kill K v) x
 | .b _,_,C | .i _ _,_,C | .s _,_,C | .pn,_,C | .sn,_,C | .nf,_,C | .ni,_,C | .ai _ _ _,_,C | .unk,_,C=>by simpa only [V.kill,VR] using C
 | .p c o,x,C=>by
  simp only [VR] at C;obtain ⟨q,E,rfl⟩:=C;simp only [V.kill];cases hc:isIn K c with
  | true=>simp [VR,Value.cells,Value.oneCell']
  | false=>simp only [af,VR];exact ⟨q,h c hc _ E,rfl⟩
 | .mp c,x,C=>by
  simp only [VR] at C;obtain ⟨q,E,rfl⟩:=C;simp only [V.kill];cases hc:isIn K c with
  | true=>simp [VR,Value.cells,Value.oneCell']
  | false=>simp only [af,VR];exact ⟨q,h c hc _ E,rfl⟩
 | .pr z c j o,x,C=>by
  simp only [VR] at C;obtain ⟨q,E,rfl⟩:=C;simp only [V.kill];cases hc:isIn K c with
  | true=>simp [VR,Value.cells,Value.oneCell']
  | false=>simp only [af,VR];exact ⟨q,h c hc _ E,rfl⟩
 | .sl c o n m,x,C=>by
  simp only [VR] at C;obtain ⟨q,cp,E,F,Q,rfl⟩:=C;simp only [V.kill];cases hc:isIn K c with
  | true=>simp [VR,Value.cells,Value.oneCell']
  | false=>simp only [af,VR];exact ⟨q,cp,h c hc _ E,F,Q,rfl⟩
 | .ws c,x,C=>by
  simp only [VR] at C;simp only [V.kill];cases hc:isIn K c with
  | true=>rcases C with ⟨q,E,rfl⟩ | ⟨E,J,rfl⟩<;>simp [VR,Value.cells,Value.oneCell']
  | false=>
   simp only [af,VR];rcases C with ⟨q,E,rfl⟩ | ⟨E,J,rfl⟩
   ·exact .inl ⟨q,h c hc _ E,rfl⟩
   ·exact .inr ⟨h c hc _ E,J,rfl⟩
 | .rs z c j n _,x,C=>by
  simp only [VR] at C;simp only [V.kill];cases hc:isIn K c with
  | true=>rcases C with ⟨q,cp,o,E,F,Q,rfl⟩ | ⟨E,F,J,rfl⟩<;>simp [VR,Value.cells,Value.oneCell']
  | false=>
   simp only [af,VR];rcases C with ⟨q,cp,o,E,F,Q,rfl⟩ | ⟨E,F,J,rfl⟩
   ·exact .inl ⟨q,cp,o,h c hc _ E,F,Q,rfl⟩
   ·exact .inr ⟨h c hc _ E,F,J,rfl⟩
 | .fn f cap,x,C=>by
  simp only [V.kill,VR] at C ⊢;obtain ⟨G,E,F⟩:=C;exact ⟨G,E,VRs.kill h _ _ F⟩
 | .it t v,x,C=>by
  simp only [V.kill,VR] at C ⊢;obtain ⟨y,E,F⟩:=C;exact ⟨y,E,VR.kill h _ _ F⟩
 | .ag l,x,C=>by
  simp only [V.kill,VR] at C ⊢;obtain ⟨G,E,F⟩:=C;exact ⟨G,E,VRs.kill h _ _ F⟩
 | .tp l,x,C=>by
  simp only [V.kill,VR] at C ⊢;obtain ⟨G,E,F⟩:=C;exact ⟨G,E,VRs.kill h _ _ F⟩
theorem VRs.kill {ι C:Inj} {K:List Nat} (h:∀b,isIn K b=false->∀q,ι b=some q->C b=some q):∀(l:List V) (F:List Value),VRs ι l F->VRs C (V.kills K l) F
 | [],_,E=>by simpa [V.kills,VRs] using E
 | v::l,F,E=>by
  simp only [V.kills,VRs] at E ⊢;obtain ⟨y,O,Q,G,J⟩:=E;exact ⟨y,O,Q,VR.kill h _ _ G,VRs.kill h _ _ J⟩
end
theorem BR.kill {ι E:Inj} {K:List Nat} (h:∀b,isIn K b=false->∀q,ι b=some q->E b=some q) {q:Rf}:∀{blk:Blk} {o:Obj},BR ι q blk o->BR E q (blk.kill K) o
 | .dead,_,_=>trivial
 | .rows t l,o,C=>C
 | .cells l,o,C=>by
  obtain ⟨F,e,fr,O,G,J⟩:=C;exact ⟨F,e,fr,O,VRs.kill h _ _ G,J⟩
 | .ints k n l,o,C=>C
 | .iter s pos,o,C=>C
 | .mp k l,o,C=>C
theorem rV (K:List Nat):∀(T:List (Nat×Option V)) (t:Nat),look (sO K T) t=(look T t).map (Option.map (V.kill K))
 | [],t=>rfl
 | (u,none)::T,t=>by
  simp only [sO,aP,rV K T];split<;>rfl
 | (u,some v)::T,t=>by
  simp only [sO,aP,rV K T];split<;>rfl
theorem rY (K:List Nat):∀(H:List (Nat×Blk)) (b:Nat),look (xI K H) b=(look H b).map (Blk.kill K)
 | [],t=>rfl
 | (u,v)::T,t=>by
  simp only [xI,aP,rY K T];split<;>rfl
theorem TR.kill {ι C:Inj} {K:List Nat} (h:∀b,isIn K b=false->∀q,ι b=some q->C b=some q) {T:List (Nat×Option V)} {G:Array Value} (O:TR ι T G):TR C (sO K T) G:=by
 intro t v E;rw [rV] at E;cases F:look T t with
 | none=>simp [F] at E
 | some o=>
  cases o with
  | none=>simp [F] at E
  | some u=>
   simp only [F,ew,aq] at E;subst E;obtain ⟨x,Q,J⟩:=O t u F;exact ⟨x,Q,VR.kill h _ _ J⟩
mutual
theorem V.kill_nil:∀v:V,V.kill [] v=v
 | .b _ | .i _ _ | .s _ | .pn | .sn | .nf | .ni | .ai _ _ _ | .unk | .p _ _ | .pr _ _ _ _ | .sl _ _ _ _ | .ws _ | .rs _ _ _ _ _ | .mp _=>rfl
 | .fn f l | .ag l | .tp l=>by simp only [V.kill,V.kills_nil l]
 | .it t v=>by simp only [V.kill,V.kill_nil v]
theorem V.kills_nil:∀l:List V,V.kills [] l=l
 | []=>rfl
 | v::l=>by simp only [V.kills,V.kill_nil v,V.kills_nil l]
end
theorem rq:∀H:List (Nat×Blk),xI [] H=H
 | []=>rfl
 | (b,x)::H=>by
  simp only [xI,rq H];cases x<;>simp only [Blk.kill,V.kills_nil]
theorem uj:∀T:List (Nat×Option V),sO [] T=T
 | []=>rfl
 | (b,none)::T=>by simp only [sO,uj T]
 | (b,some x)::T=>by simp only [sO,uj T,V.kill_nil]
theorem St.kill_eq (K:List Nat) (s:St):s.kill K={ T:=sO K s.T,H:=xI K s.H,nb:=s.nb,lo:=s.lo,ro:=s.ro,rb:=s.rb }:=by
 cases K with
 | nil=>simp only [St.kill,uj,rq]
 | cons b K=>rfl
def Ua (P:Program) (f:Nat) (args:List V) (r:CR):Prop:=
 r.pan=false/\r.wr=[]/\r.grow=0/\r.kill=[]/\∀(ι:Inj) (w:World) (a:Array Value),VRs ι args a.toList->∃x,(callFunc f a).run P w=.ok (.value x) w/\VR ι r.val x
def GoOK (P:Program) (f:Nat) (args:List V) (H:List (Nat×Blk)) (fr:Nat) (r:CR):Prop:=(kG P f/\Eb P f args H fr r)\/Ua P f args r
def fO (P:Program) (x:Ent):Prop:=
 ∀(α:Type) (args:List V) (H:List (Nat×Blk)) (fr:Nat) (k:CR->Option α) (z:α),x.e α args H fr k=some z->
  ∃r,k r=some z/\∀a,(∀b∈r.rd,look a b=look H b)->GoOK P x.f args a fr r
theorem tt {α:Type} {f:Nat} {args:List V} {H:List (Nat×Blk)} {fr:Nat} {k:CR->Option α} {z:α}:∀{E:List Ent},(∀x∈E,fO P x)->Gf α f args H fr k E=some z->
  ∃r,k r=some z/\∀d,(∀b∈r.rd,look d b=look H b)->GoOK P f args d fr r
 | [],_,h=>by simp [Gf] at h
 | x::E,c,h=>by
  simp only [Gf] at h;cases a:Nat.beq x.f f with
  | true=>
   rw [a] at h;have e:=bm a;subst e;exact c x (by simp) α args H fr k z h
  | false=>
   rw [a] at h;exact tt (λy g=>c y (gk _ g)) h
def ExR (ι:Inj):Ex->Exit->Prop
 | .normal,e=>e=.normal
 | .exit id,e=>e=.exit id
 | .ret,e=>e=.ret
 | .pan v,e=>∃x,e=.panic [{ v:=x,recovered:=false }]/\VR ι v x
def Post (n:Nat) (ι0:Inj) (w0:Base) (b:Ex->St->Prop):Exit->Act->World->Prop:=
 λe a w=>∃ex s ι,ExR ι ex e/\Inv n ι0 w0 ι s a w/\b ex s
def SemC (P:Program) (n:Nat) (c:Code) (s:St) (b:Ex->St->Prop):Prop:=
 ∀(ι0:Inj) (w0:Base) (ι:Inj) (a:Act) (w:World),Inv n ι0 w0 ι s a w->c.wp P (Post n ι0 w0 b) a w
def iJ (P:Program) (n:Nat) (L:List Sub):AC->Prop
 | .seq a b | .cond _ a b=>iJ P n L a/\iJ P n L b
 | .block _ a | .scope a | .loop a=>iJ P n L a
 | .sub m c=>∀(α:Type) (s:St) (k:Ex->St->Option α) (z:α),FL α m s k L=some z->SemC P n c.code s λex s'=>k ex s'=some z
 | _=>True
theorem Fr.trans {ι0 K:Inj} {w0 w w':World} (h:Fr ι0 w0 w) (Q:∀b q,K b=some (some q)->(∃G,ι0 b=some (some G)/\G.r=q.r)\/w0.heap.size<=q.r) (C:Fr K w w'):Fr ι0 w0 w':=by
 refine ⟨C.os.trans h.os,C.tape.trans h.tape,C.output.trans h.output,oQ h.size C.size,λk E F=>?_⟩;rw [C.blk k (l9 E h.size) ?_,h.blk k E F];intro b q U;rcases Q b q U with ⟨G,J,O⟩ | J
 ·rw [<-O];exact F b G J
 ·omega
theorem kZ (a:Act) (d:Option Nat) (v:Value):(a.put d v).tmps.size=a.tmps.size:=by
 cases d<;>simp [Act.put]
theorem iv (a:Act) (d:Option Nat) (v:Value):(a.put d v).defers=a.defers:=by
 cases d<;>rfl
theorem TR.app {ι:Inj} {s:St} {a:Act} {n:Nat} {d:Option Nat} {v:Option V} {x:Value} {wr:List (Nat×Blk)} {nb:Nat} (C:TR ι s.T a.tmps) (G:a.tmps.size=n) (E:su n d=true)
  (F:∀u,v=some u->VR ι u x):TR ι (s.app d v wr nb).T (a.put d x).tmps:=by
 cases d with
 | none=>exact C
 | some d=>exact C.put (by rw [G];exact aH E) F
theorem Inv.drawn {n:Nat} {ι0 ι:Inj} {w0:Base} {s:St} {a:Act} {w:World} (h:Inv n ι0 w0 ι s a w) (m:Nat):Inv n ι0 w0 ι s a { w with drawn:=m }:=
 ⟨h.size,h.defers,h.tmps,h.mem.draws m,h.ext,h.new,h.fr.draws m,h.low,h.fz,h.gl⟩
theorem C9 {n fr:Nat} {ι0 ι:Inj} {w0:Base} {s:St} {o:Oper} {a:Act} {w:World} {e:Eff} (f:Inv n ι0 w0 ι s a w) (L:ι fr=none) (F:su n o.dst=true)
  (h:fK P ι fr o a w e) (A:e.new=false->∀J,e.wr=some J->s.ro<=J.1) {next:Act->World->Prop} {Q:Exit->Act->World->Prop}
  (D:∀g N w',(∀b,b≠fr->g b=ι b)->(e.new=false\/e.wr=none->g fr=ι fr)->
   Inv n ι0 w0 g (s.app o.dst e.val e.wr.toList (if e.new=true/\e.wr≠none then max s.nb (fr+1) else s.nb)) N w'->next N w'):
  o.wp P a w next Q:=by
 have m:∀{x:Next} {w':World} {g:Inj},(execOp a.eval o).run P w=.ok x w'->NextR g e.val x->(∀y,(∀u,e.val=some u->VR g u y)->next (a.put o.dst y) w')->o.wp P a w next Q:=by
  intro x w' g C S k;unfold Oper.wp;rw [C];cases S with
  | skip G=>exact k _ (λu K=>by rw [G] at K;cases K)
  | value x G=>exact k _ G
 unfold fK at h;split at h
 ·rename_i l;obtain ⟨x,t,z⟩:=h;refine m t z λy k=>D ι _ _ (λ_ _=>rfl) (λ_=>rfl) ?_;rw [l];simp only [ne_eq,rI,and_false,aE];exact ⟨by rw [kZ];exact f.size,by rw [iv];exact f.defers,f.tmps.app f.size F k,f.mem,f.ext,f.new,f.fr,f.low,f.fz,f.gl⟩
 ·rename_i b blk l;split at h
  ·rename_i i;obtain ⟨r,t,O⟩:=h;have v:r.fz=false:=by
    cases hc:r.fz with
    | false=>rfl
    | true=>have:=f.fz b r t hc;have:=A i _ l;simp only at this;omega
   obtain ⟨ob,x,z,E,B⟩:=O v;refine m z B λy k=>D ι _ _ (λ_ _=>rfl) (λ_=>rfl) ?_;rw [l,i];simp only [bq,vw,aE];refine ⟨by rw [kZ];exact f.size,by rw [iv];exact f.defers,f.tmps.app f.size F k,f.mem.write t v E,f.ext,f.new,?_,f.low,f.fz,f.gl⟩;exact f.fr.write ((f.new b r t).imp (λ⟨R,h,C⟩=>⟨b,R,zZ h (A i _ l),C⟩) id) _
  ·rename_i i;obtain ⟨rfl,d,q,ob,x,z,M,H,E,B⟩:=h;have j:=m8 (r:=some q) L;refine m z B λy k=>D (upd ι b (some q)) _ _ (λc hc=>by simp [upd,hc]) (λhc=>by rw [i,l] at hc;simp at hc) ?_;rw [l,i];simp only [ne_eq,reduceCtorEq,Bz,and_self,aJ]
   refine ⟨by rw [kZ];exact f.size,by rw [iv];exact f.defers,(f.tmps.mono j).app f.size F k,(f.mem.draws d).alloc L (by simp only [St.app];omega) (by simp only [St.app];omega) M E,λc q hc=>(f.ext c q hc).imp (j _ _) id,λc q hc=>?_,(f.fr.draws d).alloc ob,f.low,λc p hc I=>by
    unfold upd at hc;split at hc
    ·simp only [aq] at hc;subst hc;rw [H] at I;cases I
    ·exact f.fz c p hc I,f.gl⟩
   unfold upd at hc;split at hc
   ·simp only [aq] at hc;subst hc;exact .inr (by rw [M];exact f.fr.size)
   ·exact f.new c q hc
theorem Inv.phantom' {n:Nat} {ι0 ι:Inj} {w0:Base} {s:St} {a:Act} {w:World} (E:Inv n ι0 w0 ι s a w) {g:Nat} (U:ι g=none) {nb:Nat} (O:s.nb<=nb) (Y:g<nb) (tr:List Lf):
  Inv n ι0 w0 (upd ι g none) { T:=s.T,H:=(g,.rows tr [])::s.H,nb:=nb,lo:=s.lo,ro:=s.ro,rb:=s.rb } a w:=by
 have F:=m8 (r:=none) U;have G:∀b,b≠g->upd ι g none b=ι b:=λb J=>by simp [upd,J]
 have C:∀b q,upd ι g none b=some (some q)->ι b=some (some q):=by
  intro b q h;by_cases J:b=g
  ·subst J;rw [cX] at h;cases h
  ·rwa [G b J] at h
 refine ⟨E.size,E.defers,E.tmps.mono F,⟨λb b' q q' X Z=>E.mem.inj b b' q q' (C _ _ X) (C _ _ Z),λb q e=>?_,λb q e=>E.mem.dom b q (C _ _ e),λb y K W=>?_⟩,
  λb q e=>(E.ext b q e).imp (F _ _) id,λb q e=>E.new b q (C _ _ e),E.fr,E.low,λb q e=>E.fz b q (C _ _ e),E.gl⟩
 ·by_cases J:b=g
  ·subst J;exact Y
  ·rw [G b J] at e;exact l9 (E.mem.low b q e) O
 ·rw [aP] at K;split at K
  ·rename_i e;subst e;simp only [aq] at K;subst K;exact .inr ⟨cX _ _ _,tr,rfl⟩
  ·rename_i Q;exact (E.mem.blk b y K W).map (G b (λe=>Q e.symm)) (λ_ _=>rfl) (λ_ _ h=>BR.mono F h) (λ_ h=>h)
theorem Inv.setnb {n:Nat} {ι0 ι:Inj} {w0:Base} {s:St} {a:Act} {w:World} (C:Inv n ι0 w0 ι s a w) {nb:Nat} (h:s.nb<=nb):
  Inv n ι0 w0 ι { T:=s.T,H:=s.H,nb:=nb,lo:=s.lo,ro:=s.ro,rb:=s.rb } a w:=
 ⟨C.size,C.defers,C.tmps,⟨C.mem.inj,λb q e=>l9 (C.mem.low b q e) h,C.mem.dom,C.mem.blk⟩,C.ext,C.new,C.fr,C.low,C.fz,C.gl⟩
theorem NM {ι:Inj} {g:Nat} (a:ι g=some none) {x:Value} (h:VR ι .sn x):VR ι (.ws g) x:=by
 simp only [VR] at h ⊢;exact .inr ⟨a,none,h⟩
theorem yT:∀(ns:List (Nat×List Lf)) (g:Nat) (l:List V) (d:List (Nat×Blk)) (u:List V) (H:List (Nat×Blk)),nilL g ns l d=(u,H)->∃o,H=o++d/\
  ∀{n:Nat} {ι0 ι:Inj} {w0:Base} {s:St} {a:Act} {w:World},Inv n ι0 w0 ι s a w->(∀b,g<=b->b<g+o.length->ι b=none)->∀nb,s.nb<=nb->(o=[]\/g+o.length<=nb)->
   ∃c,(∀b,(b<g\/g+o.length<=b)->c b=ι b)/\(∀b q,ι b=some q->c b=some q)/\(∀m,VRs c l m->VRs c u m)/\
    Inv n ι0 w0 c { T:=s.T,H:=o++s.H,nb:=nb,lo:=s.lo,ro:=s.ro,rb:=s.rb } a w
 | [],g,l,d,u,H,h=>by
  simp only [nilL,bw] at h;obtain ⟨rfl,rfl⟩:=h;exact ⟨[],rfl,λ{n ι0 ι w0 s a w} B f nb z y=>⟨ι,λ_ _=>rfl,λ_ _ h=>h,λ_ h=>h,B.setnb z⟩⟩
 | (i,tr)::r,g,l,d,u,H,h=>by
  simp only [nilL] at h;split at h
  ·rename_i hi;obtain ⟨v,rfl,G⟩:=yT r (g+1) _ _ _ _ h;refine ⟨v++[(g,.rows tr [])],by simp,λ{n ι0 ι w0 s a w} B f nb z y=>?_⟩;have p:(v++[((g,.rows tr []):Nat×Blk)]).length=v.length+1:=by simp
   rw [p] at f y ⊢;have y:g+(v.length+1)<=nb:=y.resolve_left (by simp);have D:=f g (aU _) (by omega);have t:=m8 (r:=none) D
   obtain ⟨c,k1,k2,F,k4⟩:=G (B.phantom' D z (by omega) tr) (λb K J=>by
    have:upd ι g none b=ι b:=by simp [upd,show b≠g by omega]
    rw [this];exact f b (by omega) (by omega)) nb (aU _) (.inr (by omega))
   refine ⟨c,λb C=>?_,λb q C=>k2 b q (t b q C),λm E=>F m ?_,by simpa using k4⟩
   ·rw [k1 b (by omega)];simp [upd,show b≠g by omega]
   ·obtain ⟨x,k,A⟩:=E.get hi;have:=E.set i (NM (g:=g) (k2 _ _ (cX _ _ _)) A);rwa [show m.set i x=m from by
     apply AZ;intro j;rw [List.getElem?_set];split
     ·rename_i e;subst e;split
      ·exact k.symm
      ·rename_i I;rw [fU (by omega)] at k;cases k
     ·rfl] at this
  ·exact yT r g l d u H h
theorem OH {α:Type} (l m:List (Nat×α)) (n:Nat):look (l++m) n=(look l n).or (look m n):=by
 induction l with
 | nil=>rfl
 | cons x l ih=>
  obtain ⟨k,v⟩:=x;rw [dY,aP,aP,ih];split<;>rfl
theorem Inv.reH {n:Nat} {ι0 ι:Inj} {w0:Base} {T:List (Nat×Option V)} {A B:List (Nat×Blk)} {b nb lo ro rb:Nat} {l J:List V} {a:Act} {w:World}
  (E:Inv n ι0 w0 ι ⟨T,A++(b,.cells l)::B,nb,lo,ro,rb⟩ a w) (h:∀K,VRs ι l K->VRs ι J K):Inv n ι0 w0 ι ⟨T,A++(b,.cells J)::B,nb,lo,ro,rb⟩ a w:=by
 refine ⟨E.size,E.defers,E.tmps,⟨E.mem.inj,E.mem.low,E.mem.dom,λc y hc G=>?_⟩,E.ext,E.new,E.fr,E.low,E.fz,E.gl⟩;have C:=E.mem.blk c;rw [OH,aP] at hc C;cases O:look A c with
 | some z=>rw [O] at hc C;exact C y hc G
 | none=>
  rw [O] at hc C;simp only [CG] at hc C;split at hc
  ·rename_i e;rw [ae e] at C;simp only [aq] at hc;subst hc;rcases C _ rfl (by simp) with ⟨q,o,Z,F,Y⟩ | ⟨_,t,F⟩
   ·obtain ⟨Q,W,fr,g1,X,U⟩:=Y;exact .inl ⟨q,o,Z,F,Q,W,fr,g1,h _ X,U⟩
   ·cases F
  ·rename_i e;rw [ab e] at C;exact C y hc G
theorem Inv.reT {n:Nat} {ι0 ι:Inj} {w0:Base} {s:St} {wr:List (Nat×Blk)} {d:Option Nat} {nb:Nat} {v G:V} {a:Act} {w:World}
  (E:Inv n ι0 w0 ι (s.app d (some v) wr nb) a w) (h:∀x,VR ι v x->VR ι G x):Inv n ι0 w0 ι (s.app d (some G) wr nb) a w:=by
 refine ⟨E.size,E.defers,?_,E.mem,E.ext,E.new,E.fr,E.low,E.fz,E.gl⟩;have J:=E.tmps;cases d with
 | none=>exact J
 | some d=>
  intro t u F;have C:=J t;simp only [St.app,aP] at F C;split at F
  ·rename_i e;rw [ae e] at C;simp only [aq] at F;subst F;obtain ⟨x,O,K⟩:=C v rfl;exact ⟨x,O,h x K⟩
  ·rename_i e;rw [ab e] at C;exact C u F
theorem Or {P:Program} {t:TypeId} {g:Nat} {v m:V} {f:List (Nat×Blk)} (h:nilV P t g v=(m,f)) {n:Nat} {ι0 ι:Inj} {w0:Base} {s:St} {d:Option Nat} {nb0:Nat} {a:Act} {w:World}
  (u:Inv n ι0 w0 ι (s.app d (some v) [] nb0) a w) (k:∀b,g<=b->b<g+f.length->ι b=none) {nb:Nat} (q:nb0<=nb) (o:f=[]\/g+f.length<=nb):
  ∃c,(∀b,(b<g\/g+f.length<=b)->c b=ι b)/\Inv n ι0 w0 c (s.app d (some m) f nb) a w:=by
 have j:(v,([]:List (Nat×Blk)))=(m,f)->∃c,(∀b,(b<g\/g+f.length<=b)->c b=ι b)/\Inv n ι0 w0 c (s.app d (some m) f nb) a w:=by
  intro e;simp only [bw] at e;obtain ⟨rfl,rfl⟩:=e;exact ⟨ι,λ_ _=>rfl,u.setnb q⟩
 unfold nilV at h;split at h
 ·split at h
  ·rename_i i tr r I;simp only [bw] at h;obtain ⟨rfl,rfl⟩:=h;have F:=k g (aU _) (by simp);have o:g+1<=nb:=by simpa using o
   have:=u.phantom' F q o tr;exact ⟨upd ι g none,λb z=>by simp only [List.length_singleton] at z;simp [upd,show b≠g by omega],Inv.reT (s:=s) (wr:=[(g,.rows tr [])]) (v:=.sn) this λx p=>NM (cX _ _ _) p⟩
  ·exact j h
 ·rename_i l;split at h;rename_i J E B;simp only [bw] at h;obtain ⟨rfl,rfl⟩:=h;obtain ⟨H,e,D⟩:=yT _ _ _ _ _ _ B;rw [mj] at e;subst e;obtain ⟨c,k1,k2,A,k4⟩:=D u k nb q o;refine ⟨c,k1,Inv.reT (s:=s) (wr:=E) (v:=.ag l) k4 λx p=>?_⟩;simp only [VR] at p ⊢;obtain ⟨y,C,G⟩:=p;exact ⟨y,C,A _ G⟩
 ·exact j h
theorem OK (nb fr:Nat):∀g,g=0\/fr+g<=nbOf nb fr g
 | 0=>.inl rfl
 | _+1=>.inr (Nat.le_max_right _ _)
theorem uy {P:Program} {fr:Nat} {o:Oper} {e:Eff} {v:Option V} {wr:List (Nat×Blk)} {g:Nat} (h:wV P fr o e=(v,wr,g)) (c:g=0):e.new=false\/e.wr=none:=by
 unfold wV at h;split at h
 ·rename_i b;exact .inr b
 ·split at h
  ·rename_i a;exact .inl a
  ·split at h
   ·split at h;simp only [bw] at h;omega
   ·simp only [bw] at h;omega
theorem Ia {P:Program} {fr nb:Nat} {o:Oper} {e:Eff} {v:Option V} {wr:List (Nat×Blk)} {g:Nat} (h:wV P fr o e=(v,wr,g)):
  (if e.new=true/\e.wr≠none then max nb (fr+1) else nb)<=nbOf nb fr g:=by
 cases g with
 | zero=>
  have:=uy h rfl;rw [ab (λhc=>by rcases this with h | h;rw [h] at hc;cases hc.1;exact hc.2 h)];exact aU _
 | succ g=>
  simp only [nbOf];split<;>omega
theorem fK.new_eq {ι:Inj} {f:Nat} {o:Oper} {a:Act} {w:World} {e:Eff} (h:fK P ι f o a w e) {C:Nat×Blk} (F:e.wr=some C) (E:e.new=true):C.1=f:=by
 unfold fK at h;rw [F] at h;simp only [E] at h;exact h.1
theorem Ak {P:Program} {fr:Nat} {o:Oper} {e:Eff} {v:Option V} {wr:List (Nat×Blk)} {g:Nat} (h:wV P fr o e=(v,wr,g)) {n:Nat} {ι0 ι:Inj} {w0:Base} {s:St} {nb0 nb:Nat} {a:Act} {w:World}
  (k:Inv n ι0 w0 ι (s.app o.dst e.val e.wr.toList nb0) a w) (r:∀b,fr<=b->b<fr+g->(b=fr->e.wr=none)->ι b=none) (F:∀p,e.wr=some p->e.new=true->p.1=fr) (y:nb0<=nb) (C:g=0\/fr+g<=nb):
  ∃f,(∀b,(b<fr\/fr+g<=b)->f b=ι b)/\Inv n ι0 w0 f (s.app o.dst v wr nb) a w:=by
 have i:(e.val,e.wr.toList)=(v,wr)->∃f,(∀b,(b<fr\/fr+g<=b)->f b=ι b)/\Inv n ι0 w0 f (s.app o.dst v wr nb) a w:=by
  intro e;simp only [bw] at e;obtain ⟨rfl,rfl⟩:=e;exact ⟨ι,λ_ _=>rfl,k.setnb y⟩
 unfold wV at h;split at h
 ·rename_i j;rw [j] at k i;split at h
  ·rename_i t u S E;split at h;rename_i O H K;simp only [bw] at h;obtain ⟨rfl,rfl,rfl⟩:=h;rw [E] at k;obtain ⟨f,k1,k2⟩:=Or K (d:=o.dst) (s:=s) k (λb x I=>r b x I λ_=>j) y (C.imp (λh=>uI h) id);exact ⟨f,k1,k2⟩
  ·simp only [bw] at h;exact i (by simp [h.1,h.2.1])
 ·rename_i p j;rw [j] at i;split at h
  ·simp only [bw] at h;exact i (by simp [h.1,h.2.1])
  ·rename_i z;split at h
   ·rename_i t l M m;split at h;rename_i R H J;simp only [bw] at h;obtain ⟨rfl,rfl,rfl⟩:=h;obtain ⟨N,D,L⟩:=yT _ _ _ _ _ _ J;rw [mj] at D;subst D;rw [j] at k;have x:=F p j z;obtain ⟨b,blk⟩:=p;simp only at m x;subst m x;obtain ⟨f,k1,k2,G,k4⟩:=L k (λc Q T=>r c (by omega) (by omega) (λq=>by omega)) nb y (C.elim (λh=>by omega) λh=>.inr (by omega));refine ⟨f,λc hc=>k1 c (by omega),?_⟩;have:=Inv.reH (A:=H) (B:=s.H) (b:=b) k4 G;simpa [St.app] using this
   ·simp only [bw] at h;exact i (by simp [h.1,h.2.1])
theorem Nc {ι:Inj} {T:List (Nat×Option V)} {a:Act} (c:TR ι T a.tmps) {g:Operand} {f:Nat} {cap:List V} (h:opd T g=some (.fn f cap)):
  ∃b:Array Value,a.eval g=fnV f b/\VRs ι cap b.toList:=by
 have:=bh c h;simpa only [VR] using this
theorem wm {wr:List (Nat×Blk)} {ι:Inj} {b:Nat} {r:Option Rf} (h:sJ wr ι b=some r):∃x∈wr,x.1=b:=by
 unfold sJ at h;split at h
 ·rename_i d;obtain ⟨x,c,a⟩:=pT.1 d;exact ⟨x,c,bm a⟩
 ·cases h
theorem AP (wr:List (Nat×Blk)) (ι:Inj):∀b r,sJ wr ι b=some r->ι b=some r:=by
 intro b r h;unfold sJ at h;split at h
 ·exact h
 ·cases h
theorem LA {K f:Nat} {ι:Inj} {o:Oper} {a:Act} {g:Operand} {args:Array Operand} {d:Array TypeId} {c:Array Value} {cap l:List V} (i:o.op=.call ⟨.value g,args,d⟩)
  (b:a.eval g=fnW K f c) (e:VRs ι cap c.toList) (h:VRs ι l (args.toList.map a.eval)) (w:World):
  ∃as:Array Value,VRs ι (fnAW K f l cap) as.toList/\(execOp a.eval o).run P w=(callFunc (fnFW K f) as).run P w:=by
 unfold fnAW fnFW;unfold fnW at b;cases j:Nat.blt f K<;>rw [j] at b<;>simp only at b ⊢
 ·refine ⟨c++args.map a.eval,by simpa using e.append h,?_⟩;simp only [execOp,i,resolve,b,Deferred.ofValue,Array.append_empty,ax,aC,az,invoke]
 ·refine ⟨args.map a.eval++c,by simpa using h.append e,?_⟩;simp only [execOp,i,resolve,b,Deferred.ofValue,Array.empty_append,ax,aC,az,invoke]
theorem yu {n fr:Nat} {ι0 ι:Inj} {w0:Base} {s:St} {o:Oper} {a:Act} {w:World} {g:Operand} {args:Array Operand} {S:Array TypeId} {f:Nat} {cap l:List V} {r:CR}
  (ho:o.op=.call ⟨.value g,args,S⟩) (d:Inv n ι0 w0 ι s a w) (J:∀b,fr<=b->b<fr+r.grow->ι b=none) (hd:su n o.dst=true)
  (hg:opd s.T g=some (.fn f cap)) (hl:opds (opd s.T) args.toList=some l) (D:r.wr.all (λx=>Nat.ble s.ro x.1)=true)
  (B:r.kill.all (λb=>Nat.ble s.rb b)=true) (hc:GoOK P (fnF f) (fnA f l cap) s.H fr r)
  {next:Act->World->Prop} {Q:Exit->Act->World->Prop}
  (X:r.pan=false->∀i a' w',(∀b,isIn r.kill b=false->(b<fr\/fr+r.grow<=b)->i b=ι b)->Inv n ι0 w0 i ((s.kill r.kill).app o.dst (some r.val) r.wr (max s.nb (fr+r.grow))) a' w'->next a' w')
  (hp:r.pan=true->∀i x w',VR i r.val x->Inv n ι0 w0 i ((s.kill r.kill).app none none r.wr (max s.nb (fr+r.grow))) a w'->Q (.panic [{ v:=x,recovered:=false }]) a w'):
  o.wp P a w next Q:=by
 obtain ⟨cs,U,h2⟩:=Nc d.tmps hg;have h3:=vM d.tmps hl;obtain ⟨as,K,z⟩:=LA (P:=P) ho (show a.eval g=fnW 1000000 f cs from U) h2 h3 w;rcases hc with ⟨hE,hc⟩ | ⟨a1,a2,a3,a4,M⟩
 case inr=>
  obtain ⟨x,A,E⟩:=M ι w as K;have k:(execOp a.eval o).run P w=.ok (.value x) w:=by rw [z];exact A
  unfold Oper.wp;rw [k];refine X a1 ι _ _ (λ_ _ _=>rfl) ?_;rw [a2,a3,a4,cf];refine ⟨by rw [kZ];exact d.size,by rw [iv];exact d.defers,TR.app (s:=s) d.tmps d.size hd (λu O=>by cases O;exact E),?_,d.ext,d.new,d.fr,d.low,d.fz,d.gl⟩;exact ⟨d.mem.inj,λb q F=>l9 (d.mem.low b q F) (CM _ _),d.mem.dom,d.mem.blk⟩
 have k:(execOp a.eval o).run P w=.ok (.enter (fnF f) as) w:=by rw [z];exact hE _ _
 unfold Oper.wp;rw [k];simp only [Oper.upon];refine (hc ι s.nb w as d.mem (d.glHere λb q j=>by
  obtain ⟨x,E,rfl⟩:=wm j;exact ⟨AP r.wr ι x.1 _ j,aH (bS.1 D x E)⟩) (λx E q F=>by
  cases hc:q.fz with
  | false=>rfl
  | true=>have:=d.fz x.1 q F hc;have:=aH (bS.1 D x E);omega) (λb hb1 hb2=>J b hb1 (by omega)) K).mono λe w' h=>?_
 obtain ⟨i,g1,g0,g2,g6,g3,g4,g5⟩:=h;have I:∀b q,i b=some (some q)->q.fz=true->b<s.ro:=λb q j F=>d.fz b q (g6 b q j F) F;have L:∀b,isIn r.kill b=true->s.rb<=b:=by
  intro b j;obtain ⟨c,N,R⟩:=pT.1 j;rw [bm R];exact aH (bS.1 B c N)
 have y:∀b,isIn r.kill b=false->∀q,ι b=some q->i b=some q:=by
  intro b C q j;rw [g1 b C ?_];exact j;rcases aF b fr with h | h
  ·exact .inl h
  ·rcases aF b (fr+r.grow) with h' | h'
   ·have:=J b h (by omega);rw [this] at j;cases j
   ·exact .inr h'
 have m:∀b q,ι0 b=some q->i b=some q\/s.rb<=b:=by
  intro b q j;rcases d.ext b q j with h | h
  ·cases C:isIn r.kill b with
   | true=>exact .inr (L b C)
   | false=>exact .inl (y b C q h)
  ·exact .inr h
 have p:∀b q,i b=some (some q)->(∃G,ι0 b=some (some G)/\G.r=q.r)\/w0.w.heap.size<=q.r:=by
  intro b q j;cases C:isIn r.kill b with
  | true=>
   rcases g0 b q C j with ⟨G,W,h7⟩ | W
   ·rw [<-h7];exact d.new b G W
   ·exact .inr (oQ d.fr.size W)
  | false=>
   by_cases hin:b<fr\/fr+r.grow<=b
   ·rw [g1 b C hin] at j;exact d.new b q j
   ·have:=g2 b q (by omega) (by omega) j;exact .inr (oQ d.fr.size this)
 have t:Fr (roI ι0 s.ro) w0.w w':=d.fr.trans (λb q j=>by
  obtain ⟨x,E,rfl⟩:=wm j;have U:=aH (bS.1 D x E);exact (d.new x.1 q (AP r.wr ι x.1 _ j)).imp (λ⟨G,h,hr⟩=>⟨G,zZ h U,hr⟩) id) g4
 have hT:=d.tmps.kill y;rw [St.kill_eq] at X hp;cases e with
 | returned x=>
  obtain ⟨Z,p2⟩:=g5;refine X Z i _ _ g1 ⟨by rw [kZ];exact d.size,by rw [iv];exact d.defers,TR.app (s:={ T:=sO r.kill s.T,H:=xI r.kill s.H,nb:=s.nb,lo:=s.lo,ro:=s.ro,rb:=s.rb }) hT d.size hd (λu O=>by cases O;exact p2),g3,m,p,t,d.low,I,d.gl⟩
 | panicked Y=>
  obtain ⟨Z,x,rfl,p2⟩:=g5;exact hp Z i x _ p2 ⟨d.size,d.defers,hT,g3,m,p,t,d.low,I,d.gl⟩
 | outgrown=>exact g5.elim
theorem DX {α:Type} {E:List Ent} (hE:∀x∈E,fO P x) {n fr:Nat} {ι0 ι:Inj} {w0:Base} {s:St} {o:Oper} {a:Act} {w:World} (I:Inv n ι0 w0 ι s a w)
  (A:∀b,fr<=b->b<fr+8->ι b=none) {k:St->List Nat->List (Nat×Blk)->Nat->Option α} {kp:V->St->Option α} {z:α} (h:Am P E n fr o s k kp=some z)
  {next:Act->World->Prop} {Q:Exit->Act->World->Prop}
  (hn:∀s' rd wr g c p w',k s' rd wr g=some z->(∀b,(b<fr\/fr+g<=b)->c b=ι b)->Inv n ι0 w0 c s' p w'->next p w')
  (hp:∀v s' c x p w',kp v s'=some z->VR c v x->Inv n ι0 w0 c s' p w'->Q (.panic [{ v:=x,recovered:=false }]) p w'):
  o.wp P a w next Q:=by
 have W:ι fr=none:=A fr (aU _) (by omega);unfold Am at h;split at h
 ·cases h
 rename_i hd;have J:rQ P fr o s k=some z->o.wp P a w next Q:=by
  intro h;unfold rQ at h;obtain ⟨e,N,L⟩:=Hl I.tmps I.mem W h;split at N;rename_i v wr g u;split at N
  case h_2=>cases N
  rename_i K;simp only [aA] at K;have S:=aH K.2;have G:∀O,e.wr=some O->e.new=true->O.1=fr:=λO T D=>fK.new_eq L T D;refine C9 I W hd L (λD O T=>by
   have:=K.1;unfold roOK at this;rw [T] at this;simp only [D] at this;exact aH this) λc p w' F g2 d=>?_
  obtain ⟨Z,k1,k2⟩:=Ak u d (λb Y e2 e3=>by
   by_cases j:b=fr
   ·subst j;rw [g2 (.inr (e3 rfl))];exact W
   ·rw [F b j];exact A b Y (by omega)) G (nb:=nbOf s.nb fr g) (Ia u) (OK s.nb fr g)
  refine hn _ _ _ _ Z p w' N (λb U=>?_) k2;rw [k1 b U];by_cases j:b=fr
  ·subst j;refine g2 (uy u (by omega))
  ·exact F b j
 split at h
 ·rename_i cl C;split at h
  ·rename_i g q;split at h
   ·rename_i f cap hg;obtain ⟨l,hl,h⟩:=av h;obtain ⟨r,H,h3⟩:=tt hE h;split at H
    ·cases H
    rename_i m;simp only [aA] at m;have B:r.kill=[]:=by simpa using m.2.2
    have S:=aH m.1;obtain ⟨R,args,tys⟩:=cl;simp only at q;subst q;refine yu C I (λb Y e2=>A b Y (by omega)) hd hg hl m.2.1 (by rw [B];rfl) (h3 _ λ_ _=>rfl) (λi c p w' F d=>?_) (λi c x w' F d=>?_)
    ·rw [i] at H;rw [B] at F d;exact hn _ _ _ _ c p w' H (λb K=>F b rfl K) d
    ·rw [i] at H;rw [B] at d;exact hp _ _ c x a w' H F d
   ·cases h
  ·exact J h
 ·rename_i x C;split at h
  ·rename_i t v hx;have X:=bh I.tmps hx;have hv':=X;simp only [VR] at X;obtain ⟨y,h6,_⟩:=X;unfold Oper.wp;have M:(execOp a.eval o).run P w=.halt (.panic (.iface t y)) w:=by
    simp only [execOp,C,h6,Instr.panic,ax,run_goPanic,Result.andThen_halt]
   rw [M];exact hp _ _ ι _ a w h (h6▸hv') I
  ·cases h
 ·exact J h
theorem TR.again {ι:Inj} {T:List (Nat×Option V)} {E:Array Value} (F:TR ι T E) {d:Nat} {v:V} (G:look T d=some (some v)):TR ι ((d,some v)::T) E:=by
 intro t u C;rw [aP] at C;split at C
 ·rename_i e;subst e;simp only [aq] at C;subst C;exact F d v G
 ·exact F t u C
theorem Inv.again {n:Nat} {ι0 ι:Inj} {w0:Base} {s:St} {a:Act} {w:World} (h:Inv n ι0 w0 ι s a w) {d:Nat} {v:V} (C:look s.T d=some (some v)):
  Inv n ι0 w0 ι { s with T:=(d,some v)::s.T } a w:=
 ⟨h.size,h.defers,h.tmps.again C,h.mem,h.ext,h.new,h.fr,h.low,h.fz,h.gl⟩
theorem pw {ops:List Oper} {j d:Nat} (h:gtmp ops j=some d) (a:Array Value):
  yielded ops.toArray a j=match a[d]? with | some (.bool b)=>some b | _=>none:=by
 unfold gtmp at h;split at h
 ·rename_i o c;have:(ops.toArray[j]?).bind (·.dst)=some d:=by simp [c,h]
  unfold yielded;rw [this];rfl
 ·cases h
theorem IQ {α:Type} {n:Nat} {ι0 ι:Inj} {w0:Base} {ops:List Oper} {o:Oper} {s:St} {a:Act} {w:World} (g:Inv n ι0 w0 ι s a w) {k:Bool->St->Option α} {z:α}
  (h:vr ops o s k=some z):∃c s',k c s'=some z/\Inv n ι0 w0 ι s' a w/\Region.wanted o (yielded ops.toArray a.tmps)=c/\(∀t,look s'.T t=look s.T t)/\s'.H=s.H/\s'.nb=s.nb:=by
 unfold vr at h;split at h
 ·rename_i i;exact ⟨true,s,h,g,by simp [Region.wanted,i],λ_=>rfl,rfl,rfl⟩
 ·rename_i j c i;split at h
  case h_2=>cases h
  rename_i d q;have m:=pw q a.tmps;have again:∀x,look s.T d=some (some (.b x))->∀t,look ((d,some (V.b x))::s.T) t=look s.T t:=by
   intro x f t;rw [aP];split
   ·rename_i e;subst e;exact f.symm
   ·rfl
  split at h
  ·rename_i x f;obtain ⟨y,p,l⟩:=g.tmps d _ f;simp only [VR] at l;subst l;rw [p] at m;cases x
   ·exact ⟨!c,_,h,g.again f,by cases c<;>simp [Region.wanted,i,m],again _ f,rfl,rfl⟩
   ·exact ⟨c,_,h,g.again f,by cases c<;>simp [Region.wanted,i,m],again _ f,rfl,rfl⟩
  ·rename_i f;obtain ⟨y,p,l⟩:=g.tmps d _ f;simp only [VR] at l;obtain ⟨r,rfl,_⟩:=l;rw [p] at m;exact ⟨false,s,h,g,by simp [Region.wanted,i,m],λ_=>rfl,rfl,rfl⟩
  ·cases h
theorem KL (ι:Inj):VR ι (.tp []) undef:=by
 simp only [VR];exact ⟨#[],rfl,by simp [VRs]⟩
theorem Inv.skip {n:Nat} {ι0 ι:Inj} {w0:Base} {s:St} {a:Act} {w:World} (h:Inv n ι0 w0 ι s a w) {d:Option Nat} (E:su n d=true):
  Inv n ι0 w0 ι (s.app d (some (.tp [])) [] s.nb) (a.put d undef) w:=
 ⟨by rw [kZ];exact h.size,by rw [iv];exact h.defers,h.tmps.app h.size E (λu C=>by cases C;exact KL ι),h.mem,h.ext,h.new,h.fr,h.low,h.fz,h.gl⟩
theorem Inv.fresh {n:Nat} {ι0 ι:Inj} {w0:Base} {s:St} {a:Act} {w:World} (h:Inv n ι0 w0 ι s a w):∀b,s.nb<=b->ι b=none:=by
 intro b C;cases hi:ι b with
 | none=>rfl
 | some r=>have:=h.mem.low b r hi;omega
end Go.Abs
