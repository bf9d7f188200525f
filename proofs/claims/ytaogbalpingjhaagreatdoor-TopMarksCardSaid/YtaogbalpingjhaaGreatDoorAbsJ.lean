
/- The interpreter is sound: what it comes to is what the model's code comes to.
   Conditions: none; generic over the program. -/
import Derived.Test.YtaogbalpingjhaaGreatDoorAbsI
set_option linter.unusedSimpArgs false
set_option linter.unusedVariables false
namespace Go.Abs
variable {P:Program}
def jc (P:Program) (f:Nat):Prop:=∀(args:Array Value) (w:World),(callFunc f args).run P w=.ok (.enter f args) w
def RetR (ι:Inj) (r:CR):Ending->Prop
 | .returned x=>r.pan=false/\VR ι r.val x
 | .panicked a=>r.pan=true/\∃x,a=[{ v:=x,recovered:=false }]/\VR ι r.val x
 | .outgrown=>False
def so (wr:List (Nat×Blk)) (ι:Inj):Inj:=λb=>if wr.any (λx=>Nat.beq x.1 b) then ι b else none
def EP (P:Program) (f:Nat) (args:List V) (H:List (Nat×Blk)) (fr:Nat) (r:CR):Prop:=
 ∀(ι:Inj) (nb:Nat) (w:World) (d:Array Value),WR ι H nb w->GL (so r.wr ι) w->(∀x∈r.wr,∀q,ι x.1=some (some q)->q.fz=false)->(∀b,fr<=b->b<fr+r.grow->ι b=none)->VRs ι args d.toList->
  Calls P f d w λe w'=>∃a:Inj,(∀b,isIn r.kill b=false->(b<fr\/fr+r.grow<=b)->a b=ι b)/\
   (∀b q,isIn r.kill b=true->a b=some (some q)->(∃c,ι b=some (some c)/\c.r=q.r)\/w.heap.size<=q.r)/\(∀b q,fr<=b->b<fr+r.grow->a b=some (some q)->w.heap.size<=q.r)/\(∀b q,a b=some (some q)->q.fz=true->ι b=some (some q))/\
   WR a (r.wr++yb r.kill H) (max nb (fr+r.grow)) w'/\Fr (so r.wr ι) w w'/\RetR a r e
mutual
theorem VR.kill {ι G:Inj} {K:List Nat} (h:∀b,isIn K b=false->∀q,ι b=some q->G b=some q):∀(v:V) (x:Value),VR ι v x->VR G (V.kill K v) x
 | .b _,_,hx | .i _ _,_,hx | .s _,_,hx | .pn,_,hx | .sn,_,hx | .nf,_,hx | .ni,_,hx | .ai _ _ _,_,hx | .unk,_,hx=>by simpa only [V.kill,VR] using hx
 | .p c o,x,hx=>by
  simp only [VR] at hx;obtain ⟨q,C,rfl⟩:=hx;simp only [V.kill];cases hc:isIn K c with
  | true=>simp [VR,Value.cells,Value.oneCell']
  | false=>simp only [af,VR];exact ⟨q,h c hc _ C,rfl⟩
 | .mp c,x,hx=>by
  simp only [VR] at hx;obtain ⟨q,C,rfl⟩:=hx;simp only [V.kill];cases hc:isIn K c with
  | true=>simp [VR,Value.cells,Value.oneCell']
  | false=>simp only [af,VR];exact ⟨q,h c hc _ C,rfl⟩
 | .pr z c j o,x,hx=>by
  simp only [VR] at hx;obtain ⟨q,C,rfl⟩:=hx;simp only [V.kill];cases hc:isIn K c with
  | true=>simp [VR,Value.cells,Value.oneCell']
  | false=>simp only [af,VR];exact ⟨q,h c hc _ C,rfl⟩
 | .sl c o n m,x,hx=>by
  simp only [VR] at hx;obtain ⟨q,cp,C,E,O,rfl⟩:=hx;simp only [V.kill];cases hc:isIn K c with
  | true=>simp [VR,Value.cells,Value.oneCell']
  | false=>simp only [af,VR];exact ⟨q,cp,h c hc _ C,E,O,rfl⟩
 | .ws c,x,hx=>by
  simp only [VR] at hx;simp only [V.kill];cases hc:isIn K c with
  | true=>rcases hx with ⟨q,C,rfl⟩ | ⟨C,J,rfl⟩<;>simp [VR,Value.cells,Value.oneCell']
  | false=>
   simp only [af,VR];rcases hx with ⟨q,C,rfl⟩ | ⟨C,J,rfl⟩
   ·exact .inl ⟨q,h c hc _ C,rfl⟩
   ·exact .inr ⟨h c hc _ C,J,rfl⟩
 | .rs z c j n _,x,hx=>by
  simp only [VR] at hx;simp only [V.kill];cases hc:isIn K c with
  | true=>rcases hx with ⟨q,cp,o,C,E,O,rfl⟩ | ⟨C,E,J,rfl⟩<;>simp [VR,Value.cells,Value.oneCell']
  | false=>
   simp only [af,VR];rcases hx with ⟨q,cp,o,C,E,O,rfl⟩ | ⟨C,E,J,rfl⟩
   ·exact .inl ⟨q,cp,o,h c hc _ C,E,O,rfl⟩
   ·exact .inr ⟨h c hc _ C,E,J,rfl⟩
 | .fn f cap,x,hx=>by
  simp only [V.kill,VR] at hx ⊢;obtain ⟨F,C,E⟩:=hx;exact ⟨F,C,VRs.kill h _ _ E⟩
 | .it t v,x,hx=>by
  simp only [V.kill,VR] at hx ⊢;obtain ⟨y,C,E⟩:=hx;exact ⟨y,C,VR.kill h _ _ E⟩
 | .ag l,x,hx=>by
  simp only [V.kill,VR] at hx ⊢;obtain ⟨F,C,E⟩:=hx;exact ⟨F,C,VRs.kill h _ _ E⟩
 | .tp l,x,hx=>by
  simp only [V.kill,VR] at hx ⊢;obtain ⟨F,C,E⟩:=hx;exact ⟨F,C,VRs.kill h _ _ E⟩
theorem VRs.kill {ι C:Inj} {K:List Nat} (h:∀b,isIn K b=false->∀q,ι b=some q->C b=some q):∀(l:List V) (E:List Value),VRs ι l E->VRs C (V.kills K l) E
 | [],_,hx=>by simpa [V.kills,VRs] using hx
 | v::l,E,hx=>by
  simp only [V.kills,VRs] at hx ⊢;obtain ⟨y,F,J,O,G⟩:=hx;exact ⟨y,F,J,VR.kill h _ _ O,VRs.kill h _ _ G⟩
end
theorem BR.kill {ι E:Inj} {K:List Nat} (h:∀b,isIn K b=false->∀q,ι b=some q->E b=some q) {q:Rf}:∀{blk:Blk} {o:Obj},BR ι q blk o->BR E q (blk.kill K) o
 | .dead,_,_=>trivial
 | .rows t l,o,C=>C
 | .cells l,o,C=>by
  obtain ⟨F,e,fr,J,O,G⟩:=C;exact ⟨F,e,fr,J,VRs.kill h _ _ O,G⟩
 | .ints k n l,o,C=>C
 | .iter s pos,o,C=>C
 | .mp k l,o,C=>C
theorem rK (K:List Nat):∀(T:List (Nat×Option V)) (t:Nat),look (sB K T) t=(look T t).map (Option.map (V.kill K))
 | [],t=>rfl
 | (u,none)::T,t=>by
  simp only [sB,aL,rK K T];split<;>rfl
 | (u,some v)::T,t=>by
  simp only [sB,aL,rK K T];split<;>rfl
theorem ru (K:List Nat):∀(H:List (Nat×Blk)) (b:Nat),look (yb K H) b=(look H b).map (Blk.kill K)
 | [],t=>rfl
 | (u,v)::T,t=>by
  simp only [yb,aL,ru K T];split<;>rfl
theorem TR.kill {ι C:Inj} {K:List Nat} (h:∀b,isIn K b=false->∀q,ι b=some q->C b=some q) {T:List (Nat×Option V)} {G:Array Value} (J:TR ι T G):TR C (sB K T) G:=by
 intro t v E;rw [rK] at E;cases F:look T t with
 | none=>simp [F] at E
 | some o=>
  cases o with
  | none=>simp [F] at E
  | some u=>
   simp only [F,dC,ah] at E;subst E;obtain ⟨x,O,Q⟩:=J t u F;exact ⟨x,O,VR.kill h _ _ Q⟩
mutual
theorem V.kill_nil:∀v:V,V.kill [] v=v
 | .b _ | .i _ _ | .s _ | .pn | .sn | .nf | .ni | .ai _ _ _ | .unk | .p _ _ | .pr _ _ _ _ | .sl _ _ _ _ | .ws _ | .rs _ _ _ _ _ | .mp _=>rfl
 | .fn f l | .ag l | .tp l=>by simp only [V.kill,V.kills_nil l]
 | .it t v=>by simp only [V.kill,V.kill_nil v]
theorem V.kills_nil:∀l:List V,V.kills [] l=l
 | []=>rfl
 | v::l=>by simp only [V.kills,V.kill_nil v,V.kills_nil l]
end
theorem rh:∀H:List (Nat×Blk),yb [] H=H
 | []=>rfl
 | (b,x)::H=>by
  simp only [yb,rh H];cases x<;>simp only [Blk.kill,V.kills_nil]
theorem vb:∀T:List (Nat×Option V),sB [] T=T
 | []=>rfl
 | (b,none)::T=>by simp only [sB,vb T]
 | (b,some x)::T=>by simp only [sB,vb T,V.kill_nil]
theorem St.kill_eq (K:List Nat) (s:St):s.kill K={ T:=sB K s.T,H:=yb K s.H,nb:=s.nb,lo:=s.lo,ro:=s.ro,rb:=s.rb }:=by
 cases K with
 | nil=>simp only [St.kill,vb,rh]
 | cons b K=>rfl
def SD (P:Program) (f:Nat) (args:List V) (r:CR):Prop:=
 r.pan=false/\r.wr=[]/\r.grow=0/\r.kill=[]/\∀(ι:Inj) (w:World) (a:Array Value),VRs ι args a.toList->∃x,(callFunc f a).run P w=.ok (.value x) w/\VR ι r.val x
def GoOK (P:Program) (f:Nat) (args:List V) (H:List (Nat×Blk)) (fr:Nat) (r:CR):Prop:=(jc P f/\EP P f args H fr r)\/SD P f args r
def dT (P:Program) (x:Ent):Prop:=
 ∀(α:Type) (args:List V) (H:List (Nat×Blk)) (fr:Nat) (k:CR->Option α) (z:α),x.e α args H fr k=some z->
  ∃r,k r=some z/\∀a,(∀b∈r.rd,look a b=look H b)->GoOK P x.f args a fr r
theorem tl {α:Type} {f:Nat} {args:List V} {H:List (Nat×Blk)} {fr:Nat} {k:CR->Option α} {z:α}:∀{E:List Ent},(∀x∈E,dT P x)->FO α f args H fr k E=some z->
  ∃r,k r=some z/\∀d,(∀b∈r.rd,look d b=look H b)->GoOK P f args d fr r
 | [],_,h=>by simp [FO] at h
 | x::E,c,h=>by
  simp only [FO] at h;cases a:Nat.beq x.f f with
  | true=>
   rw [a] at h;have e:=be a;subst e;exact c x (by simp) α args H fr k z h
  | false=>
   rw [a] at h;exact tl (λy hy=>c y (eC _ hy)) h
def ExR (ι:Inj):Ex->Exit->Prop
 | .normal,e=>e=.normal
 | .exit id,e=>e=.exit id
 | .ret,e=>e=.ret
 | .pan v,e=>∃x,e=.panic [{ v:=x,recovered:=false }]/\VR ι v x
def Post (n:Nat) (ι0:Inj) (w0:Base) (b:Ex->St->Prop):Exit->Act->World->Prop:=
 λe a w=>∃ex s ι,ExR ι ex e/\Inv n ι0 w0 ι s a w/\b ex s
def SemC (P:Program) (n:Nat) (c:Code) (s:St) (b:Ex->St->Prop):Prop:=
 ∀(ι0:Inj) (w0:Base) (ι:Inj) (a:Act) (w:World),Inv n ι0 w0 ι s a w->c.wp P (Post n ι0 w0 b) a w
def iu (P:Program) (n:Nat) (L:List Sub):AC->Prop
 | .seq a b | .cond _ a b=>iu P n L a/\iu P n L b
 | .block _ a | .scope a | .loop a=>iu P n L a
 | .sub m c=>∀(α:Type) (s:St) (k:Ex->St->Option α) (z:α),F3 α m s k L=some z->SemC P n c.code s λex s'=>k ex s'=some z
 | _=>True
theorem Fr.trans {ι0 J:Inj} {w0 w w':World} (h:Fr ι0 w0 w) (W:∀b q,J b=some (some q)->(∃G,ι0 b=some (some G)/\G.r=q.r)\/w0.heap.size<=q.r) (E:Fr J w w'):Fr ι0 w0 w':=by
 refine ⟨E.os.trans h.os,E.tape.trans h.tape,E.output.trans h.output,pX h.size E.size,λk F C=>?_⟩;rw [E.blk k (mi F h.size) ?_,h.blk k F C];intro b q Q;rcases W b q Q with ⟨G,O,U⟩ | O
 ·rw [<-U];exact C b G O
 ·omega
theorem k7 (a:Act) (d:Option Nat) (v:Value):(a.put d v).tmps.size=a.tmps.size:=by
 cases d<;>simp [Act.put]
theorem hZ (a:Act) (d:Option Nat) (v:Value):(a.put d v).defers=a.defers:=by
 cases d<;>rfl
theorem TR.app {ι:Inj} {s:St} {a:Act} {n:Nat} {d:Option Nat} {v:Option V} {x:Value} {wr:List (Nat×Blk)} {nb:Nat} (C:TR ι s.T a.tmps) (hs:a.tmps.size=n) (E:rV n d=true)
  (F:∀u,v=some u->VR ι u x):TR ι (s.app d v wr nb).T (a.put d x).tmps:=by
 cases d with
 | none=>exact C
 | some d=>exact C.put (by rw [hs];exact aD E) F
theorem Inv.drawn {n:Nat} {ι0 ι:Inj} {w0:Base} {s:St} {a:Act} {w:World} (h:Inv n ι0 w0 ι s a w) (m:Nat):Inv n ι0 w0 ι s a { w with drawn:=m }:=
 ⟨h.size,h.defers,h.tmps,h.mem.draws m,h.ext,h.new,h.fr.draws m,h.low,h.fz,h.gl⟩
theorem E3 {n fr:Nat} {ι0 ι:Inj} {w0:Base} {s:St} {o:Oper} {a:Act} {w:World} {e:Eff} (f:Inv n ι0 w0 ι s a w) (I:ι fr=none) (G:rV n o.dst=true)
  (h:fw P ι fr o a w e) (t:e.new=false->∀H,e.wr=some H->s.ro<=H.1) {next:Act->World->Prop} {Q:Exit->Act->World->Prop}
  (B:∀g L w',(∀b,b≠fr->g b=ι b)->(e.new=false\/e.wr=none->g fr=ι fr)->
   Inv n ι0 w0 g (s.app o.dst e.val e.wr.toList (if e.new=true/\e.wr≠none then max s.nb (fr+1) else s.nb)) L w'->next L w'):
  o.wp P a w next Q:=by
 have k:∀{x:Next} {w':World} {g:Inj},(execOp a.eval o).run P w=.ok x w'->NextR g e.val x->(∀y,(∀u,e.val=some u->VR g u y)->next (a.put o.dst y) w')->o.wp P a w next Q:=by
  intro x w' g D hx hy;unfold Oper.wp;rw [D];cases hx with
  | skip A=>exact hy _ (λu J=>by rw [A] at J;cases J)
  | value x A=>exact hy _ A
 unfold fw at h;split at h
 ·rename_i l;obtain ⟨x,m,v⟩:=h;refine k m v λy hy=>B ι _ _ (λ_ _=>rfl) (λ_=>rfl) ?_;rw [l];simp only [ne_eq,rA,and_false,aC];exact ⟨by rw [k7];exact f.size,by rw [hZ];exact f.defers,f.tmps.app f.size G hy,f.mem,f.ext,f.new,f.fr,f.low,f.fz,f.gl⟩
 ·rename_i b blk l;split at h
  ·rename_i i;obtain ⟨r,m,N⟩:=h;have z:r.fz=false:=by
    cases hc:r.fz with
    | false=>rfl
    | true=>have:=f.fz b r m hc;have:=t i _ l;simp only at this;omega
   obtain ⟨ob,x,v,F,C⟩:=N z;refine k v C λy hy=>B ι _ _ (λ_ _=>rfl) (λ_=>rfl) ?_;rw [l,i];simp only [bE,false_and,aC];refine ⟨by rw [k7];exact f.size,by rw [hZ];exact f.defers,f.tmps.app f.size G hy,f.mem.write m z F,f.ext,f.new,?_,f.low,f.fz,f.gl⟩;exact f.fr.write ((f.new b r m).imp (λ⟨M,h,D⟩=>⟨b,M,zE h (t i _ l),D⟩) id) _
  ·rename_i i;obtain ⟨rfl,d,q,ob,x,v,K,E,F,C⟩:=h;have j:=nq (r:=some q) I;refine k v C λy hy=>B (upd ι b (some q)) _ _ (λc hc=>by simp [upd,hc]) (λhc=>by rw [i,l] at hc;simp at hc) ?_;rw [l,i];simp only [ne_eq,reduceCtorEq,BY,and_self,aI]
   refine ⟨by rw [k7];exact f.size,by rw [hZ];exact f.defers,(f.tmps.mono j).app f.size G hy,(f.mem.draws d).alloc I (by simp only [St.app];omega) (by simp only [St.app];omega) K F,λc q hc=>(f.ext c q hc).imp (j _ _) id,λc q hc=>?_,(f.fr.draws d).alloc ob,f.low,λc p hc hp=>by
    unfold upd at hc;split at hc
    ·simp only [ah] at hc;subst hc;rw [E] at hp;cases hp
    ·exact f.fz c p hc hp,f.gl⟩
   unfold upd at hc;split at hc
   ·simp only [ah] at hc;subst hc;exact .inr (by rw [K];exact f.fr.size)
   ·exact f.new c q hc
theorem Inv.phantom' {n:Nat} {ι0 ι:Inj} {w0:Base} {s:St} {a:Act} {w:World} (E:Inv n ι0 w0 ι s a w) {g:Nat} (hf:ι g=none) {nb:Nat} (Q:s.nb<=nb) (Z:g<nb) (tr:List Lf):
  Inv n ι0 w0 (upd ι g none) { T:=s.T,H:=(g,.rows tr [])::s.H,nb:=nb,lo:=s.lo,ro:=s.ro,rb:=s.rb } a w:=by
 have G:=nq (r:=none) hf;have F:∀b,b≠g->upd ι g none b=ι b:=λb J=>by simp [upd,J]
 have C:∀b q,upd ι g none b=some (some q)->ι b=some (some q):=by
  intro b q h;by_cases J:b=g
  ·subst J;rw [cO] at h;cases h
  ·rwa [F b J] at h
 refine ⟨E.size,E.defers,E.tmps.mono G,⟨λb X q Y e1 W=>E.mem.inj b X q Y (C _ _ e1) (C _ _ W),λb q e=>?_,λb q e=>E.mem.dom b q (C _ _ e),λb y O hd=>?_⟩,
  λb q e=>(E.ext b q e).imp (G _ _) id,λb q e=>E.new b q (C _ _ e),E.fr,E.low,λb q e=>E.fz b q (C _ _ e),E.gl⟩
 ·by_cases J:b=g
  ·subst J;exact Z
  ·rw [F b J] at e;exact mi (E.mem.low b q e) Q
 ·rw [aL] at O;split at O
  ·rename_i e;subst e;simp only [ah] at O;subst O;exact .inr ⟨cO _ _ _,tr,rfl⟩
  ·rename_i U;exact (E.mem.blk b y O hd).map (F b (λe=>U e.symm)) (λ_ _=>rfl) (λ_ _ h=>BR.mono G h) (λ_ h=>h)
theorem Inv.setnb {n:Nat} {ι0 ι:Inj} {w0:Base} {s:St} {a:Act} {w:World} (C:Inv n ι0 w0 ι s a w) {nb:Nat} (h:s.nb<=nb):
  Inv n ι0 w0 ι { T:=s.T,H:=s.H,nb:=nb,lo:=s.lo,ro:=s.ro,rb:=s.rb } a w:=
 ⟨C.size,C.defers,C.tmps,⟨C.mem.inj,λb q e=>mi (C.mem.low b q e) h,C.mem.dom,C.mem.blk⟩,C.ext,C.new,C.fr,C.low,C.fz,C.gl⟩
theorem NM {ι:Inj} {g:Nat} (a:ι g=some none) {x:Value} (h:VR ι .sn x):VR ι (.ws g) x:=by
 simp only [VR] at h ⊢;exact .inr ⟨a,none,h⟩
theorem yp:∀(ns:List (Nat×List Lf)) (g:Nat) (l:List V) (acc:List (Nat×Blk)) (t:List V) (H:List (Nat×Blk)),nilL g ns l acc=(t,H)->∃k,H=k++acc/\
  ∀{n:Nat} {ι0 ι:Inj} {w0:Base} {s:St} {a:Act} {w:World},Inv n ι0 w0 ι s a w->(∀b,g<=b->b<g+k.length->ι b=none)->∀nb,s.nb<=nb->(k=[]\/g+k.length<=nb)->
   ∃c,(∀b,(b<g\/g+k.length<=b)->c b=ι b)/\(∀b q,ι b=some q->c b=some q)/\(∀m,VRs c l m->VRs c t m)/\
    Inv n ι0 w0 c { T:=s.T,H:=k++s.H,nb:=nb,lo:=s.lo,ro:=s.ro,rb:=s.rb } a w
 | [],g,l,acc,t,H,h=>by
  simp only [nilL,bf] at h;obtain ⟨rfl,rfl⟩:=h;exact ⟨[],rfl,λ{n ι0 ι w0 s a w} A d nb y v=>⟨ι,λ_ _=>rfl,λ_ _ h=>h,λ_ h=>h,A.setnb y⟩⟩
 | (i,tr)::r,g,l,acc,t,H,h=>by
  simp only [nilL] at h;split at h
  ·rename_i hi;obtain ⟨u,rfl,F⟩:=yp r (g+1) _ _ _ _ h;refine ⟨u++[(g,.rows tr [])],by simp,λ{n ι0 ι w0 s a w} A d nb y v=>?_⟩;have o:(u++[((g,.rows tr []):Nat×Blk)]).length=u.length+1:=by simp
   rw [o] at d v ⊢;have v:g+(u.length+1)<=nb:=v.resolve_left (by simp);have B:=d g (aM _) (by omega);have p:=nq (r:=none) B
   obtain ⟨c,k1,k2,D,k4⟩:=F (A.phantom' B y (by omega) tr) (λb I G=>by
    have:upd ι g none b=ι b:=by simp [upd,show b≠g by omega]
    rw [this];exact d b (by omega) (by omega)) nb (aM _) (.inr (by omega))
   refine ⟨c,λb C=>?_,λb q C=>k2 b q (p b q C),λm hx=>D m ?_,by simpa using k4⟩
   ·rw [k1 b (by omega)];simp [upd,show b≠g by omega]
   ·obtain ⟨x,f,z⟩:=hx.get hi;have:=hx.set i (NM (g:=g) (k2 _ _ (cO _ _ _)) z);rwa [show m.set i x=m from by
     apply xf;intro j;rw [List.getElem?_set];split
     ·rename_i e;subst e;split
      ·exact f.symm
      ·rename_i E;rw [eX (by omega)] at f;cases f
     ·rfl] at this
  ·exact yp r g l acc t H h
theorem O9 {α:Type} (l m:List (Nat×α)) (n:Nat):look (l++m) n=(look l n).or (look m n):=by
 induction l with
 | nil=>rfl
 | cons x l ih=>
  obtain ⟨k,v⟩:=x;rw [dL,aL,aL,ih];split<;>rfl
theorem Inv.reH {n:Nat} {ι0 ι:Inj} {w0:Base} {T:List (Nat×Option V)} {A B:List (Nat×Blk)} {b nb lo ro rb:Nat} {l G:List V} {a:Act} {w:World}
  (E:Inv n ι0 w0 ι ⟨T,A++(b,.cells l)::B,nb,lo,ro,rb⟩ a w) (h:∀J,VRs ι l J->VRs ι G J):Inv n ι0 w0 ι ⟨T,A++(b,.cells G)::B,nb,lo,ro,rb⟩ a w:=by
 refine ⟨E.size,E.defers,E.tmps,⟨E.mem.inj,E.mem.low,E.mem.dom,λc y hc Q=>?_⟩,E.ext,E.new,E.fr,E.low,E.fz,E.gl⟩;have C:=E.mem.blk c;rw [O9,aL] at hc C;cases O:look A c with
 | some z=>rw [O] at hc C;exact C y hc Q
 | none=>
  rw [O] at hc C;simp only [Cb] at hc C;split at hc
  ·rename_i e;rw [ae e] at C;simp only [ah] at hc;subst hc;rcases C _ rfl (by simp) with ⟨q,o,Z,F,Y⟩ | ⟨_,t,F⟩
   ·obtain ⟨U,W,fr,g1,X,g3⟩:=Y;exact .inl ⟨q,o,Z,F,U,W,fr,g1,h _ X,g3⟩
   ·cases F
  ·rename_i e;rw [ab e] at C;exact C y hc Q
theorem Inv.reT {n:Nat} {ι0 ι:Inj} {w0:Base} {s:St} {wr:List (Nat×Blk)} {d:Option Nat} {nb:Nat} {v J:V} {a:Act} {w:World}
  (E:Inv n ι0 w0 ι (s.app d (some v) wr nb) a w) (h:∀x,VR ι v x->VR ι J x):Inv n ι0 w0 ι (s.app d (some J) wr nb) a w:=by
 refine ⟨E.size,E.defers,?_,E.mem,E.ext,E.new,E.fr,E.low,E.fz,E.gl⟩;have G:=E.tmps;cases d with
 | none=>exact G
 | some d=>
  intro t u F;have C:=G t;simp only [St.app,aL] at F C;split at F
  ·rename_i e;rw [ae e] at C;simp only [ah] at F;subst F;obtain ⟨x,O,Q⟩:=C v rfl;exact ⟨x,O,h x Q⟩
  ·rename_i e;rw [ab e] at C;exact C u F
theorem PH {P:Program} {t:TypeId} {g:Nat} {v m:V} {f:List (Nat×Blk)} (h:nilV P t g v=(m,f)) {n:Nat} {ι0 ι:Inj} {w0:Base} {s:St} {d:Option Nat} {nb0:Nat} {a:Act} {w:World}
  (q:Inv n ι0 w0 ι (s.app d (some v) [] nb0) a w) (k:∀b,g<=b->b<g+f.length->ι b=none) {nb:Nat} (p:nb0<=nb) (o:f=[]\/g+f.length<=nb):
  ∃c,(∀b,(b<g\/g+f.length<=b)->c b=ι b)/\Inv n ι0 w0 c (s.app d (some m) f nb) a w:=by
 have j:(v,([]:List (Nat×Blk)))=(m,f)->∃c,(∀b,(b<g\/g+f.length<=b)->c b=ι b)/\Inv n ι0 w0 c (s.app d (some m) f nb) a w:=by
  intro e;simp only [bf] at e;obtain ⟨rfl,rfl⟩:=e;exact ⟨ι,λ_ _=>rfl,q.setnb p⟩
 unfold nilV at h;split at h
 ·split at h
  ·rename_i i tr r I;simp only [bf] at h;obtain ⟨rfl,rfl⟩:=h;have u:=k g (aM _) (by simp);have o:g+1<=nb:=by simpa using o
   have:=q.phantom' u p o tr;exact ⟨upd ι g none,λb B=>by simp only [List.length_singleton] at B;simp [upd,show b≠g by omega],Inv.reT (s:=s) (wr:=[(g,.rows tr [])]) (v:=.sn) this λx hx=>NM (cO _ _ _) hx⟩
  ·exact j h
 ·rename_i l;split at h;rename_i H z F;simp only [bf] at h;obtain ⟨rfl,rfl⟩:=h;obtain ⟨G,e,E⟩:=yp _ _ _ _ _ _ F;rw [kx] at e;subst e;obtain ⟨c,k1,k2,C,k4⟩:=E q k nb p o;refine ⟨c,k1,Inv.reT (s:=s) (wr:=z) (v:=.ag l) k4 λx hx=>?_⟩;simp only [VR] at hx ⊢;obtain ⟨A,y,D⟩:=hx;exact ⟨A,y,C _ D⟩
 ·exact j h
theorem NX (nb fr:Nat):∀g,g=0\/fr+g<=nbOf nb fr g
 | 0=>.inl rfl
 | _+1=>.inr (Nat.le_max_right _ _)
theorem tt {P:Program} {fr:Nat} {o:Oper} {e:Eff} {v:Option V} {wr:List (Nat×Blk)} {g:Nat} (h:wJ P fr o e=(v,wr,g)) (c:g=0):e.new=false\/e.wr=none:=by
 unfold wJ at h;split at h
 ·rename_i a;exact .inr a
 ·split at h
  ·rename_i b;exact .inl b
  ·split at h
   ·split at h;simp only [bf] at h;omega
   ·simp only [bf] at h;omega
theorem GW {P:Program} {fr nb:Nat} {o:Oper} {e:Eff} {v:Option V} {wr:List (Nat×Blk)} {g:Nat} (h:wJ P fr o e=(v,wr,g)):
  (if e.new=true/\e.wr≠none then max nb (fr+1) else nb)<=nbOf nb fr g:=by
 cases g with
 | zero=>
  have:=tt h rfl;rw [ab (λhc=>by rcases this with h | h;rw [h] at hc;cases hc.1;exact hc.2 h)];exact aM _
 | succ g=>
  simp only [nbOf];split<;>omega
theorem fw.new_eq {ι:Inj} {f:Nat} {o:Oper} {a:Act} {w:World} {e:Eff} (h:fw P ι f o a w e) {C:Nat×Blk} (E:e.wr=some C) (F:e.new=true):C.1=f:=by
 unfold fw at h;rw [E] at h;simp only [F] at h;exact h.1
theorem zD {P:Program} {fr:Nat} {o:Oper} {e:Eff} {v:Option V} {wr:List (Nat×Blk)} {g:Nat} (h:wJ P fr o e=(v,wr,g)) {n:Nat} {ι0 ι:Inj} {w0:Base} {s:St} {nb0 nb:Nat} {a:Act} {w:World}
  (k:Inv n ι0 w0 ι (s.app o.dst e.val e.wr.toList nb0) a w) (r:∀b,fr<=b->b<fr+g->(b=fr->e.wr=none)->ι b=none) (I:∀m,e.wr=some m->e.new=true->m.1=fr) (y:nb0<=nb) (D:g=0\/fr+g<=nb):
  ∃f,(∀b,(b<fr\/fr+g<=b)->f b=ι b)/\Inv n ι0 w0 f (s.app o.dst v wr nb) a w:=by
 have i:(e.val,e.wr.toList)=(v,wr)->∃f,(∀b,(b<fr\/fr+g<=b)->f b=ι b)/\Inv n ι0 w0 f (s.app o.dst v wr nb) a w:=by
  intro e;simp only [bf] at e;obtain ⟨rfl,rfl⟩:=e;exact ⟨ι,λ_ _=>rfl,k.setnb y⟩
 unfold wJ at h;split at h
 ·rename_i j;rw [j] at k i;split at h
  ·rename_i t u N F;split at h;rename_i M H G;simp only [bf] at h;obtain ⟨rfl,rfl,rfl⟩:=h;rw [F] at k;obtain ⟨f,k1,k2⟩:=PH G (d:=o.dst) (s:=s) k (λb x E=>r b x E λ_=>j) y (D.imp (λh=>rl h) id);exact ⟨f,k1,k2⟩
  ·simp only [bf] at h;exact i (by simp [h.1,h.2.1])
 ·rename_i m j;rw [j] at i;split at h
  ·simp only [bf] at h;exact i (by simp [h.1,h.2.1])
  ·rename_i z;split at h
   ·rename_i t l S p;split at h;rename_i T H L;simp only [bf] at h;obtain ⟨rfl,rfl,rfl⟩:=h;obtain ⟨R,C,K⟩:=yp _ _ _ _ _ _ L;rw [kx] at C;subst C;rw [j] at k;have x:=I m j z;obtain ⟨b,blk⟩:=m;simp only at p x;subst p x;obtain ⟨f,k1,k2,J,k4⟩:=K k (λc O Q=>r c (by omega) (by omega) (λq=>by omega)) nb y (D.elim (λh=>by omega) λh=>.inr (by omega));refine ⟨f,λc hc=>k1 c (by omega),?_⟩;have:=Inv.reH (A:=H) (B:=s.H) (b:=b) k4 J;simpa [St.app] using this
   ·simp only [bf] at h;exact i (by simp [h.1,h.2.1])
theorem Np {ι:Inj} {T:List (Nat×Option V)} {a:Act} (c:TR ι T a.tmps) {g:Operand} {f:Nat} {cap:List V} (h:opd T g=some (.fn f cap)):
  ∃b:Array Value,a.eval g=fnV f b/\VRs ι cap b.toList:=by
 have:=aZ c h;simpa only [VR] using this
theorem wN {wr:List (Nat×Blk)} {ι:Inj} {b:Nat} {r:Option Rf} (h:so wr ι b=some r):∃x∈wr,x.1=b:=by
 unfold so at h;split at h
 ·rename_i a;obtain ⟨x,hx,c⟩:=pD.1 a;exact ⟨x,hx,be c⟩
 ·cases h
theorem Ae (wr:List (Nat×Blk)) (ι:Inj):∀b r,so wr ι b=some r->ι b=some r:=by
 intro b r h;unfold so at h;split at h
 ·exact h
 ·cases h
theorem LH {K f:Nat} {ι:Inj} {o:Oper} {a:Act} {g:Operand} {args:Array Operand} {d:Array TypeId} {c:Array Value} {cap l:List V} (i:o.op=.call ⟨.value g,args,d⟩)
  (b:a.eval g=fnW K f c) (h:VRs ι cap c.toList) (e:VRs ι l (args.toList.map a.eval)) (w:World):
  ∃as:Array Value,VRs ι (fnAW K f l cap) as.toList/\(execOp a.eval o).run P w=(callFunc (fnFW K f) as).run P w:=by
 unfold fnAW fnFW;unfold fnW at b;cases j:Nat.blt f K<;>rw [j] at b<;>simp only at b ⊢
 ·refine ⟨c++args.map a.eval,by simpa using h.append e,?_⟩;simp only [execOp,i,resolve,b,Deferred.ofValue,Array.append_empty,aq,aB,ax,invoke]
 ·refine ⟨args.map a.eval++c,by simpa using e.append h,?_⟩;simp only [execOp,i,resolve,b,Deferred.ofValue,Array.empty_append,aq,aB,ax,invoke]
theorem yk {n fr:Nat} {ι0 ι:Inj} {w0:Base} {s:St} {o:Oper} {a:Act} {w:World} {g:Operand} {args:Array Operand} {W:Array TypeId} {f:Nat} {cap l:List V} {r:CR}
  (ho:o.op=.call ⟨.value g,args,W⟩) (d:Inv n ι0 w0 ι s a w) (K:∀b,fr<=b->b<fr+r.grow->ι b=none) (hd:rV n o.dst=true)
  (hg:opd s.T g=some (.fn f cap)) (hl:opds (opd s.T) args.toList=some l) (B:r.wr.all (λx=>Nat.ble s.ro x.1)=true)
  (D:r.kill.all (λb=>Nat.ble s.rb b)=true) (hc:GoOK P (fnF f) (fnA f l cap) s.H fr r)
  {next:Act->World->Prop} {Q:Exit->Act->World->Prop}
  (hn:r.pan=false->∀i a' w',(∀b,isIn r.kill b=false->(b<fr\/fr+r.grow<=b)->i b=ι b)->Inv n ι0 w0 i ((s.kill r.kill).app o.dst (some r.val) r.wr (max s.nb (fr+r.grow))) a' w'->next a' w')
  (hp:r.pan=true->∀i x w',VR i r.val x->Inv n ι0 w0 i ((s.kill r.kill).app none none r.wr (max s.nb (fr+r.grow))) a w'->Q (.panic [{ v:=x,recovered:=false }]) a w'):
  o.wp P a w next Q:=by
 obtain ⟨cs,O,h2⟩:=Np d.tmps hg;have h3:=uV d.tmps hl;obtain ⟨as,L,z⟩:=LH (P:=P) ho (show a.eval g=fnW 1000000 f cs from O) h2 h3 w;rcases hc with ⟨hE,hc⟩ | ⟨a1,a2,a3,a4,I⟩
 case inr=>
  obtain ⟨x,A,hx⟩:=I ι w as L;have m:(execOp a.eval o).run P w=.ok (.value x) w:=by rw [z];exact A
  unfold Oper.wp;rw [m];refine hn a1 ι _ _ (λ_ _ _=>rfl) ?_;rw [a2,a3,a4,cP];refine ⟨by rw [k7];exact d.size,by rw [hZ];exact d.defers,TR.app (s:=s) d.tmps d.size hd (λu R=>by cases R;exact hx),?_,d.ext,d.new,d.fr,d.low,d.fz,d.gl⟩;exact ⟨d.mem.inj,λb q F=>mi (d.mem.low b q F) (Be _ _),d.mem.dom,d.mem.blk⟩
 have m:(execOp a.eval o).run P w=.ok (.enter (fnF f) as) w:=by rw [z];exact hE _ _
 unfold Oper.wp;rw [m];simp only [Oper.upon];refine (hc ι s.nb w as d.mem (d.glHere λb q j=>by
  obtain ⟨x,hx,rfl⟩:=wN j;exact ⟨Ae r.wr ι x.1 _ j,aD (bL.1 B x hx)⟩) (λx hx q F=>by
  cases hc:q.fz with
  | false=>rfl
  | true=>have:=d.fz x.1 q F hc;have:=aD (bL.1 B x hx);omega) (λb M hb2=>K b M (by omega)) L).mono λe w' h=>?_
 obtain ⟨i,S,g0,g2,g6,g3,g4,Y⟩:=h;have J:∀b q,i b=some (some q)->q.fz=true->b<s.ro:=λb q j F=>d.fz b q (g6 b q j F) F;have G:∀b,isIn r.kill b=true->s.rb<=b:=by
  intro b j;obtain ⟨c,N,Z⟩:=pD.1 j;rw [be Z];exact aD (bL.1 D c N)
 have y:∀b,isIn r.kill b=false->∀q,ι b=some q->i b=some q:=by
  intro b C q j;rw [S b C ?_];exact j;rcases aE b fr with h | h
  ·exact .inl h
  ·rcases aE b (fr+r.grow) with h' | h'
   ·have:=K b h (by omega);rw [this] at j;cases j
   ·exact .inr h'
 have k:∀b q,ι0 b=some q->i b=some q\/s.rb<=b:=by
  intro b q j;rcases d.ext b q j with h | h
  ·cases C:isIn r.kill b with
   | true=>exact .inr (G b C)
   | false=>exact .inl (y b C q h)
  ·exact .inr h
 have t:∀b q,i b=some (some q)->(∃E,ι0 b=some (some E)/\E.r=q.r)\/w0.w.heap.size<=q.r:=by
  intro b q j;cases C:isIn r.kill b with
  | true=>
   rcases g0 b q C j with ⟨E,h6,h7⟩ | h6
   ·rw [<-h7];exact d.new b E h6
   ·exact .inr (pX d.fr.size h6)
  | false=>
   by_cases hin:b<fr\/fr+r.grow<=b
   ·rw [S b C hin] at j;exact d.new b q j
   ·have:=g2 b q (by omega) (by omega) j;exact .inr (pX d.fr.size this)
 have p:Fr (roI ι0 s.ro) w0.w w':=d.fr.trans (λb q j=>by
  obtain ⟨x,hx,rfl⟩:=wN j;have O:=aD (bL.1 B x hx);exact (d.new x.1 q (Ae r.wr ι x.1 _ j)).imp (λ⟨E,h,hr⟩=>⟨E,zE h O,hr⟩) id) g4
 have hT:=d.tmps.kill y;rw [St.kill_eq] at hn hp;cases e with
 | returned x=>
  obtain ⟨U,X⟩:=Y;refine hn U i _ _ S ⟨by rw [k7];exact d.size,by rw [hZ];exact d.defers,TR.app (s:={ T:=sB r.kill s.T,H:=yb r.kill s.H,nb:=s.nb,lo:=s.lo,ro:=s.ro,rb:=s.rb }) hT d.size hd (λu R=>by cases R;exact X),g3,k,t,p,d.low,J,d.gl⟩
 | panicked chain=>
  obtain ⟨U,x,rfl,X⟩:=Y;exact hp U i x _ X ⟨d.size,d.defers,hT,g3,k,t,p,d.low,J,d.gl⟩
 | outgrown=>exact Y.elim
theorem EU {α:Type} {E:List Ent} (hE:∀x∈E,dT P x) {n fr:Nat} {ι0 ι:Inj} {w0:Base} {s:St} {o:Oper} {a:Act} {w:World} (I:Inv n ι0 w0 ι s a w)
  (B:∀b,fr<=b->b<fr+8->ι b=none) {k:St->List Nat->List (Nat×Blk)->Nat->Option α} {kp:V->St->Option α} {z:α} (h:A5 P E n fr o s k kp=some z)
  {next:Act->World->Prop} {Q:Exit->Act->World->Prop}
  (hn:∀s' rd wr g c p w',k s' rd wr g=some z->(∀b,(b<fr\/fr+g<=b)->c b=ι b)->Inv n ι0 w0 c s' p w'->next p w')
  (hp:∀v s' c x p w',kp v s'=some z->VR c v x->Inv n ι0 w0 c s' p w'->Q (.panic [{ v:=x,recovered:=false }]) p w'):
  o.wp P a w next Q:=by
 have S:ι fr=none:=B fr (aM _) (by omega);unfold A5 at h;split at h
 ·cases h
 rename_i hd;have K:r7 P fr o s k=some z->o.wp P a w next Q:=by
  intro h;unfold r7 at h;obtain ⟨e,R,J⟩:=GE I.tmps I.mem S h;split at R;rename_i v wr g G;split at R
  case h_2=>cases R
  rename_i L;simp only [az] at L;have X:=aD L.2;have A:∀N,e.wr=some N->e.new=true->N.1=fr:=λN Y D=>fw.new_eq J Y D;refine E3 I S hd J (λD N Y=>by
   have:=L.1;unfold roOK at this;rw [Y] at this;simp only [D] at this;exact aD this) λc p w' u g2 d=>?_
  obtain ⟨Z,k1,k2⟩:=zD G d (λb W e2 e3=>by
   by_cases i:b=fr
   ·subst i;rw [g2 (.inr (e3 rfl))];exact S
   ·rw [u b i];exact B b W (by omega)) A (nb:=nbOf s.nb fr g) (GW G) (NX s.nb fr g)
  refine hn _ _ _ _ Z p w' R (λb T=>?_) k2;rw [k1 b T];by_cases i:b=fr
  ·subst i;refine g2 (tt G (by omega))
  ·exact u b i
 split at h
 ·rename_i cl C;split at h
  ·rename_i g q;split at h
   ·rename_i f cap hg;obtain ⟨l,hl,h⟩:=ak h;obtain ⟨r,H,h3⟩:=tl hE h;split at H
    ·cases H
    rename_i m;simp only [az] at m;have F:r.kill=[]:=by simpa using m.2.2
    have X:=aD m.1;obtain ⟨O,args,tys⟩:=cl;simp only at q;subst q;refine yk C I (λb W e2=>B b W (by omega)) hd hg hl m.2.1 (by rw [F];rfl) (h3 _ λ_ _=>rfl) (λj c p w' u d=>?_) (λj c x w' u d=>?_)
    ·rw [j] at H;rw [F] at u d;exact hn _ _ _ _ c p w' H (λb L=>u b rfl L) d
    ·rw [j] at H;rw [F] at d;exact hp _ _ c x a w' H u d
   ·cases h
  ·exact K h
 ·rename_i x C;split at h
  ·rename_i t v hx;have U:=aZ I.tmps hx;have hv':=U;simp only [VR] at U;obtain ⟨y,h6,_⟩:=U;unfold Oper.wp;have M:(execOp a.eval o).run P w=.halt (.panic (.iface t y)) w:=by
    simp only [execOp,C,h6,Instr.panic,aq,run_goPanic,Result.andThen_halt]
   rw [M];exact hp _ _ ι _ a w h (h6▸hv') I
  ·cases h
 ·exact K h
theorem TR.again {ι:Inj} {T:List (Nat×Option V)} {F:Array Value} (E:TR ι T F) {d:Nat} {v:V} (G:look T d=some (some v)):TR ι ((d,some v)::T) F:=by
 intro t u C;rw [aL] at C;split at C
 ·rename_i e;subst e;simp only [ah] at C;subst C;exact E d v G
 ·exact E t u C
theorem Inv.again {n:Nat} {ι0 ι:Inj} {w0:Base} {s:St} {a:Act} {w:World} (h:Inv n ι0 w0 ι s a w) {d:Nat} {v:V} (C:look s.T d=some (some v)):
  Inv n ι0 w0 ι { s with T:=(d,some v)::s.T } a w:=
 ⟨h.size,h.defers,h.tmps.again C,h.mem,h.ext,h.new,h.fr,h.low,h.fz,h.gl⟩
theorem oY {ops:List Oper} {j d:Nat} (h:gtmp ops j=some d) (a:Array Value):
  yielded ops.toArray a j=match a[d]? with | some (.bool b)=>some b | _=>none:=by
 unfold gtmp at h;split at h
 ·rename_i o c;have:(ops.toArray[j]?).bind (·.dst)=some d:=by simp [c,h]
  unfold yielded;rw [this];rfl
 ·cases h
theorem IE {α:Type} {n:Nat} {ι0 ι:Inj} {w0:Base} {ops:List Oper} {o:Oper} {s:St} {a:Act} {w:World} (f:Inv n ι0 w0 ι s a w) {k:Bool->St->Option α} {z:α}
  (h:uf ops o s k=some z):∃c s',k c s'=some z/\Inv n ι0 w0 ι s' a w/\Region.wanted o (yielded ops.toArray a.tmps)=c/\(∀t,look s'.T t=look s.T t)/\s'.H=s.H/\s'.nb=s.nb:=by
 unfold uf at h;split at h
 ·rename_i i;exact ⟨true,s,h,f,by simp [Region.wanted,i],λ_=>rfl,rfl,rfl⟩
 ·rename_i j c i;split at h
  case h_2=>cases h
  rename_i d m;have hy:=oY m a.tmps;have again:∀x,look s.T d=some (some (.b x))->∀t,look ((d,some (V.b x))::s.T) t=look s.T t:=by
   intro x hx t;rw [aL];split
   ·rename_i e;subst e;exact hx.symm
   ·rfl
  split at h
  ·rename_i x hx;obtain ⟨y,l,g⟩:=f.tmps d _ hx;simp only [VR] at g;subst g;rw [l] at hy;cases x
   ·exact ⟨!c,_,h,f.again hx,by cases c<;>simp [Region.wanted,i,hy],again _ hx,rfl,rfl⟩
   ·exact ⟨c,_,h,f.again hx,by cases c<;>simp [Region.wanted,i,hy],again _ hx,rfl,rfl⟩
  ·rename_i hx;obtain ⟨y,l,g⟩:=f.tmps d _ hx;simp only [VR] at g;obtain ⟨p,rfl,_⟩:=g;rw [l] at hy;exact ⟨false,s,h,f,by simp [Region.wanted,i,hy],λ_=>rfl,rfl,rfl⟩
  ·cases h
theorem MI (ι:Inj):VR ι (.tp []) undef:=by
 simp only [VR];exact ⟨#[],rfl,by simp [VRs]⟩
theorem Inv.skip {n:Nat} {ι0 ι:Inj} {w0:Base} {s:St} {a:Act} {w:World} (h:Inv n ι0 w0 ι s a w) {d:Option Nat} (E:rV n d=true):
  Inv n ι0 w0 ι (s.app d (some (.tp [])) [] s.nb) (a.put d undef) w:=
 ⟨by rw [k7];exact h.size,by rw [hZ];exact h.defers,h.tmps.app h.size E (λu C=>by cases C;exact MI ι),h.mem,h.ext,h.new,h.fr,h.low,h.fz,h.gl⟩
theorem Inv.fresh {n:Nat} {ι0 ι:Inj} {w0:Base} {s:St} {a:Act} {w:World} (h:Inv n ι0 w0 ι s a w):∀b,s.nb<=b->ι b=none:=by
 intro b C;cases hi:ι b with
 | none=>rfl
 | some r=>have:=h.mem.low b r hi;omega
end Go.Abs
