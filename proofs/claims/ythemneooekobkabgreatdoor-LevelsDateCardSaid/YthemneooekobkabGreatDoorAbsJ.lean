
/- The interpreter is sound: what it comes to is what the model's code comes to.
   Conditions: none; generic over the program. -/
import Derived.Test.YthemneooekobkabGreatDoorAbsI
set_option linter.unusedSimpArgs false
set_option linter.unusedVariables false
namespace Go.Abs
variable {P:Program}
def kM (P:Program) (f:Nat):Prop:=∀(args:Array Value) (w:World),(callFunc f args).run P w=.ok (.enter f args) w
def RetR (ι:Inj) (r:CR):Ending->Prop
 | .returned x=>r.pan=false/\VR ι r.val x
 | .panicked a=>r.pan=true/\∃x,a=[{ v:=x,recovered:=false }]/\VR ι r.val x
 | .outgrown=>False
def vz (wr:List (Nat×Blk)) (ι:Inj):Inj:=λb=>if wr.any (λx=>Nat.beq x.1 b) then ι b else none
def GT (P:Program) (f:Nat) (args:List V) (H:List (Nat×Blk)) (fr:Nat) (r:CR):Prop:=
 ∀(ι:Inj) (nb:Nat) (w:World) (c:Array Value),WR ι H nb w->GL (vz r.wr ι) w->(∀x∈r.wr,∀q,ι x.1=some (some q)->q.fz=false)->(∀b,fr<=b->b<fr+r.grow->ι b=none)->VRs ι args c.toList->
  Calls P f c w λe w'=>∃a:Inj,(∀b,isIn r.kill b=false->(b<fr\/fr+r.grow<=b)->a b=ι b)/\
   (∀b q,isIn r.kill b=true->a b=some (some q)->(∃d,ι b=some (some d)/\d.r=q.r)\/w.heap.size<=q.r)/\(∀b q,fr<=b->b<fr+r.grow->a b=some (some q)->w.heap.size<=q.r)/\(∀b q,a b=some (some q)->q.fz=true->ι b=some (some q))/\
   WR a (r.wr++AK r.kill H) (max nb (fr+r.grow)) w'/\Fr (vz r.wr ι) w w'/\RetR a r e
mutual
theorem VR.kill {ι F:Inj} {K:List Nat} (h:∀b,isIn K b=false->∀q,ι b=some q->F b=some q):∀(v:V) (x:Value),VR ι v x->VR F (V.kill K v) x
 | .b _,_,hx | .i _ _,_,hx | .s _,_,hx | .pn,_,hx | .sn,_,hx | .nf,_,hx | .ni,_,hx | .ai _ _ _,_,hx | .unk,_,hx=>by simpa only [V.kill,VR] using hx
 | .p c o,x,hx=>by
  simp only [VR] at hx;obtain ⟨q,C,rfl⟩:=hx;simp only [V.kill];cases hc:isIn K c with
  | true=>simp [VR,Value.cells,Value.oneCell']
  | false=>simp only [af,VR];exact ⟨q,h c hc _ C,rfl⟩
 | .mp c,x,hx=>by
  simp only [VR] at hx;obtain ⟨q,C,rfl⟩:=hx;simp only [V.kill];cases hc:isIn K c with
  | true=>simp [VR,Value.cells,Value.oneCell']
  | false=>simp only [af,VR];exact ⟨q,h c hc _ C,rfl⟩
 | .pr z c j o,x,hx=>by
  simp only [VR] at hx;obtain ⟨q,C,rfl⟩:=hx;simp only [V.kill];cases hc:isIn K c with
  | true=>simp [VR,Value.cells,Value.oneCell']
  | false=>simp only [af,VR];exact ⟨q,h c hc _ C,rfl⟩
 | .sl c o n m,x,hx=>by
  simp only [VR] at hx;obtain ⟨q,cp,C,E,O,rfl⟩:=hx;simp only [V.kill];cases hc:isIn K c with
  | true=>simp [VR,Value.cells,Value.oneCell']
  | false=>simp only [af,VR];exact ⟨q,cp,h c hc _ C,E,O,rfl⟩
 | .ws c,x,hx=>by
  simp only [VR] at hx;simp only [V.kill];cases hc:isIn K c with
  | true=>rcases hx with ⟨q,C,rfl⟩ | ⟨C,G,rfl⟩<;>simp [VR,Value.cells,Value.oneCell']
  | false=>
   simp only [af,VR];rcases hx with ⟨q,C,rfl⟩ | ⟨C,G,rfl⟩
   ·exact .inl ⟨q,h c hc _ C,rfl⟩
   ·exact .inr ⟨h c hc _ C,G,rfl⟩
 | .rs z c j n _,x,hx=>by
  simp only [VR] at hx;simp only [V.kill];cases hc:isIn K c with
  | true=>rcases hx with ⟨q,cp,o,C,E,O,rfl⟩ | ⟨C,E,G,rfl⟩<;>simp [VR,Value.cells,Value.oneCell']
  | false=>
   simp only [af,VR];rcases hx with ⟨q,cp,o,C,E,O,rfl⟩ | ⟨C,E,G,rfl⟩
   ·exact .inl ⟨q,cp,o,h c hc _ C,E,O,rfl⟩
   ·exact .inr ⟨h c hc _ C,E,G,rfl⟩
 | .fn f cap,x,hx=>by
  simp only [V.kill,VR] at hx ⊢;obtain ⟨J,C,E⟩:=hx;exact ⟨J,C,VRs.kill h _ _ E⟩
 | .it t v,x,hx=>by
  simp only [V.kill,VR] at hx ⊢;obtain ⟨y,C,E⟩:=hx;exact ⟨y,C,VR.kill h _ _ E⟩
 | .ag l,x,hx=>by
  simp only [V.kill,VR] at hx ⊢;obtain ⟨J,C,E⟩:=hx;exact ⟨J,C,VRs.kill h _ _ E⟩
 | .tp l,x,hx=>by
  simp only [V.kill,VR] at hx ⊢;obtain ⟨J,C,E⟩:=hx;exact ⟨J,C,VRs.kill h _ _ E⟩
theorem VRs.kill {ι C:Inj} {K:List Nat} (h:∀b,isIn K b=false->∀q,ι b=some q->C b=some q):∀(l:List V) (E:List Value),VRs ι l E->VRs C (V.kills K l) E
 | [],_,hx=>by simpa [V.kills,VRs] using hx
 | v::l,E,hx=>by
  simp only [V.kills,VRs] at hx ⊢;obtain ⟨y,G,O,J,F⟩:=hx;exact ⟨y,G,O,VR.kill h _ _ J,VRs.kill h _ _ F⟩
end
theorem BR.kill {ι E:Inj} {K:List Nat} (h:∀b,isIn K b=false->∀q,ι b=some q->E b=some q) {q:Rf}:∀{blk:Blk} {o:Obj},BR ι q blk o->BR E q (blk.kill K) o
 | .dead,_,_=>trivial
 | .rows t l,o,C=>C
 | .cells l,o,C=>by
  obtain ⟨O,e,fr,F,G,J⟩:=C;exact ⟨O,e,fr,F,VRs.kill h _ _ G,J⟩
 | .ints k n l,o,C=>C
 | .iter s pos,o,C=>C
 | .mp k l,o,C=>C
theorem vk (K:List Nat):∀(T:List (Nat×Option V)) (t:Nat),look (vM K T) t=(look T t).map (Option.map (V.kill K))
 | [],t=>rfl
 | (u,none)::T,t=>by
  simp only [vM,aY,vk K T];split<;>rfl
 | (u,some v)::T,t=>by
  simp only [vM,aY,vk K T];split<;>rfl
theorem vh (K:List Nat):∀(H:List (Nat×Blk)) (b:Nat),look (AK K H) b=(look H b).map (Blk.kill K)
 | [],t=>rfl
 | (u,v)::T,t=>by
  simp only [AK,aY,vh K T];split<;>rfl
theorem TR.kill {ι E:Inj} {K:List Nat} (h:∀b,isIn K b=false->∀q,ι b=some q->E b=some q) {T:List (Nat×Option V)} {G:Array Value} (J:TR ι T G):TR E (vM K T) G:=by
 intro t v C;rw [vk] at C;cases F:look T t with
 | none=>simp [F] at C
 | some o=>
  cases o with
  | none=>simp [F] at C
  | some u=>
   simp only [F,fa,av] at C;subst C;obtain ⟨x,Q,O⟩:=J t u F;exact ⟨x,Q,VR.kill h _ _ O⟩
mutual
theorem V.kill_nil:∀v:V,V.kill [] v=v
 | .b _ | .i _ _ | .s _ | .pn | .sn | .nf | .ni | .ai _ _ _ | .unk | .p _ _ | .pr _ _ _ _ | .sl _ _ _ _ | .ws _ | .rs _ _ _ _ _ | .mp _=>rfl
 | .fn f l | .ag l | .tp l=>by simp only [V.kill,V.kills_nil l]
 | .it t v=>by simp only [V.kill,V.kill_nil v]
theorem V.kills_nil:∀l:List V,V.kills [] l=l
 | []=>rfl
 | v::l=>by simp only [V.kills,V.kill_nil v,V.kills_nil l]
end
theorem uw:∀H:List (Nat×Blk),AK [] H=H
 | []=>rfl
 | (b,x)::H=>by
  simp only [AK,uw H];cases x<;>simp only [Blk.kill,V.kills_nil]
theorem xA:∀T:List (Nat×Option V),vM [] T=T
 | []=>rfl
 | (b,none)::T=>by simp only [vM,xA T]
 | (b,some x)::T=>by simp only [vM,xA T,V.kill_nil]
theorem St.kill_eq (K:List Nat) (s:St):s.kill K={ T:=vM K s.T,H:=AK K s.H,nb:=s.nb,lo:=s.lo,ro:=s.ro,rb:=s.rb }:=by
 cases K with
 | nil=>simp only [St.kill,xA,uw]
 | cons b K=>rfl
def YL (P:Program) (f:Nat) (args:List V) (r:CR):Prop:=
 r.pan=false/\r.wr=[]/\r.grow=0/\r.kill=[]/\∀(ι:Inj) (w:World) (a:Array Value),VRs ι args a.toList->∃x,(callFunc f a).run P w=.ok (.value x) w/\VR ι r.val x
def GoOK (P:Program) (f:Nat) (args:List V) (H:List (Nat×Blk)) (fr:Nat) (r:CR):Prop:=(kM P f/\GT P f args H fr r)\/YL P f args r
def fW (P:Program) (x:Ent):Prop:=
 ∀(α:Type) (args:List V) (H:List (Nat×Blk)) (fr:Nat) (k:CR->Option α) (z:α),x.e α args H fr k=some z->
  ∃r,k r=some z/\∀a,(∀b∈r.rd,look a b=look H b)->GoOK P x.f args a fr r
theorem wm {α:Type} {f:Nat} {args:List V} {H:List (Nat×Blk)} {fr:Nat} {k:CR->Option α} {z:α}:∀{E:List Ent},(∀x∈E,fW P x)->Jx α f args H fr k E=some z->
  ∃r,k r=some z/\∀d,(∀b∈r.rd,look d b=look H b)->GoOK P f args d fr r
 | [],_,h=>by simp [Jx] at h
 | x::E,c,h=>by
  simp only [Jx] at h;cases a:Nat.beq x.f f with
  | true=>
   rw [a] at h;have e:=bC a;subst e;exact c x (by simp) α args H fr k z h
  | false=>
   rw [a] at h;exact wm (λy hy=>c y (fi _ hy)) h
def ExR (ι:Inj):Ex->Exit->Prop
 | .normal,e=>e=.normal
 | .exit id,e=>e=.exit id
 | .ret,e=>e=.ret
 | .pan v,e=>∃x,e=.panic [{ v:=x,recovered:=false }]/\VR ι v x
def Post (n:Nat) (ι0:Inj) (w0:Base) (b:Ex->St->Prop):Exit->Act->World->Prop:=
 λe a w=>∃ex s ι,ExR ι ex e/\Inv n ι0 w0 ι s a w/\b ex s
def SemC (P:Program) (n:Nat) (c:Code) (s:St) (b:Ex->St->Prop):Prop:=
 ∀(ι0:Inj) (w0:Base) (ι:Inj) (a:Act) (w:World),Inv n ι0 w0 ι s a w->c.wp P (Post n ι0 w0 b) a w
def jJ (P:Program) (n:Nat) (L:List Sub):AC->Prop
 | .seq a b | .cond _ a b=>jJ P n L a/\jJ P n L b
 | .block _ a | .scope a | .loop a=>jJ P n L a
 | .sub m c=>∀(α:Type) (s:St) (k:Ex->St->Option α) (z:α),Jr α m s k L=some z->SemC P n c.code s λex s'=>k ex s'=some z
 | _=>True
theorem Fr.trans {ι0 J:Inj} {w0 w w':World} (h:Fr ι0 w0 w) (W:∀b q,J b=some (some q)->(∃G,ι0 b=some (some G)/\G.r=q.r)\/w0.heap.size<=q.r) (C:Fr J w w'):Fr ι0 w0 w':=by
 refine ⟨C.os.trans h.os,C.tape.trans h.tape,C.output.trans h.output,qR h.size C.size,λk F E=>?_⟩;rw [C.blk k (oL F h.size) ?_,h.blk k F E];intro b q Q;rcases W b q Q with ⟨G,O,U⟩ | O
 ·rw [<-U];exact E b G O
 ·omega
theorem nz (a:Act) (d:Option Nat) (v:Value):(a.put d v).tmps.size=a.tmps.size:=by
 cases d<;>simp [Act.put]
theorem jx (a:Act) (d:Option Nat) (v:Value):(a.put d v).defers=a.defers:=by
 cases d<;>rfl
theorem TR.app {ι:Inj} {s:St} {a:Act} {n:Nat} {d:Option Nat} {v:Option V} {x:Value} {wr:List (Nat×Blk)} {nb:Nat} (C:TR ι s.T a.tmps) (hs:a.tmps.size=n) (F:vc n d=true)
  (E:∀u,v=some u->VR ι u x):TR ι (s.app d v wr nb).T (a.put d x).tmps:=by
 cases d with
 | none=>exact C
 | some d=>exact C.put (by rw [hs];exact aL F) E
theorem Inv.drawn {n:Nat} {ι0 ι:Inj} {w0:Base} {s:St} {a:Act} {w:World} (h:Inv n ι0 w0 ι s a w) (m:Nat):Inv n ι0 w0 ι s a { w with drawn:=m }:=
 ⟨h.size,h.defers,h.tmps,h.mem.draws m,h.ext,h.new,h.fr.draws m,h.low,h.fz,h.gl⟩
theorem Hm {n fr:Nat} {ι0 ι:Inj} {w0:Base} {s:St} {o:Oper} {a:Act} {w:World} {e:Eff} (f:Inv n ι0 w0 ι s a w) (G:ι fr=none) (z:vc n o.dst=true)
  (h:gI P ι fr o a w e) (l:e.new=false->∀H,e.wr=some H->s.ro<=H.1) {next:Act->World->Prop} {Q:Exit->Act->World->Prop}
  (E:∀g I w',(∀b,b≠fr->g b=ι b)->(e.new=false\/e.wr=none->g fr=ι fr)->
   Inv n ι0 w0 g (s.app o.dst e.val e.wr.toList (if e.new=true/\e.wr≠none then max s.nb (fr+1) else s.nb)) I w'->next I w'):
  o.wp P a w next Q:=by
 have fin:∀{x:Next} {w':World} {g:Inj},(execOp a.eval o).run P w=.ok x w'->NextR g e.val x->(∀y,(∀u,e.val=some u->VR g u y)->next (a.put o.dst y) w')->o.wp P a w next Q:=by
  intro x w' g A hx hy;unfold Oper.wp;rw [A];cases hx with
  | skip F=>exact hy _ (λu J=>by rw [F] at J;cases J)
  | value x F=>exact hy _ F
 unfold gI at h;split at h
 ·rename_i k;obtain ⟨x,v,t⟩:=h;refine fin v t λy hy=>E ι _ _ (λ_ _=>rfl) (λ_=>rfl) ?_;rw [k];simp only [ne_eq,u0,and_false,aC];exact ⟨by rw [nz];exact f.size,by rw [jx];exact f.defers,f.tmps.app f.size z hy,f.mem,f.ext,f.new,f.fr,f.low,f.fz,f.gl⟩
 ·rename_i b blk k;split at h
  ·rename_i i;obtain ⟨r,v,M⟩:=h;have m:r.fz=false:=by
    cases hc:r.fz with
    | false=>rfl
    | true=>have:=f.fz b r v hc;have:=l i _ k;simp only at this;omega
   obtain ⟨ob,x,t,D,C⟩:=M m;refine fin t C λy hy=>E ι _ _ (λ_ _=>rfl) (λ_=>rfl) ?_;rw [k,i];simp only [bw,xw,aC];refine ⟨by rw [nz];exact f.size,by rw [jx];exact f.defers,f.tmps.app f.size z hy,f.mem.write v m D,f.ext,f.new,?_,f.low,f.fz,f.gl⟩;exact f.fr.write ((f.new b r v).imp (λ⟨L,h,A⟩=>⟨b,L,Dw h (l i _ k),A⟩) id) _
  ·rename_i i;obtain ⟨rfl,d,q,ob,x,t,K,B,D,C⟩:=h;have j:=pT (r:=some q) G;refine fin t C λy hy=>E (upd ι b (some q)) _ _ (λc hc=>by simp [upd,hc]) (λhc=>by rw [i,k] at hc;simp at hc) ?_;rw [k,i];simp only [ne_eq,reduceCtorEq,GB,and_self,aO]
   refine ⟨by rw [nz];exact f.size,by rw [jx];exact f.defers,(f.tmps.mono j).app f.size z hy,(f.mem.draws d).alloc G (by simp only [St.app];omega) (by simp only [St.app];omega) K D,λc q hc=>(f.ext c q hc).imp (j _ _) id,λc q hc=>?_,(f.fr.draws d).alloc ob,f.low,λc p hc hp=>by
    unfold upd at hc;split at hc
    ·simp only [av] at hc;subst hc;rw [B] at hp;cases hp
    ·exact f.fz c p hc hp,f.gl⟩
   unfold upd at hc;split at hc
   ·simp only [av] at hc;subst hc;exact .inr (by rw [K];exact f.fr.size)
   ·exact f.new c q hc
theorem Inv.phantom' {n:Nat} {ι0 ι:Inj} {w0:Base} {s:St} {a:Act} {w:World} (E:Inv n ι0 w0 ι s a w) {g:Nat} (Y:ι g=none) {nb:Nat} (U:s.nb<=nb) (hg:g<nb) (tr:List Lf):
  Inv n ι0 w0 (upd ι g none) { T:=s.T,H:=(g,.rows tr [])::s.H,nb:=nb,lo:=s.lo,ro:=s.ro,rb:=s.rb } a w:=by
 have F:=pT (r:=none) Y;have G:∀b,b≠g->upd ι g none b=ι b:=λb J=>by simp [upd,J]
 have C:∀b q,upd ι g none b=some (some q)->ι b=some (some q):=by
  intro b q h;by_cases J:b=g
  ·subst J;rw [dF] at h;cases h
  ·rwa [G b J] at h
 refine ⟨E.size,E.defers,E.tmps.mono F,⟨λb W q Z e1 e2=>E.mem.inj b W q Z (C _ _ e1) (C _ _ e2),λb q e=>?_,λb q e=>E.mem.dom b q (C _ _ e),λb y O X=>?_⟩,
  λb q e=>(E.ext b q e).imp (F _ _) id,λb q e=>E.new b q (C _ _ e),E.fr,E.low,λb q e=>E.fz b q (C _ _ e),E.gl⟩
 ·by_cases J:b=g
  ·subst J;exact hg
  ·rw [G b J] at e;exact oL (E.mem.low b q e) U
 ·rw [aY] at O;split at O
  ·rename_i e;subst e;simp only [av] at O;subst O;exact .inr ⟨dF _ _ _,tr,rfl⟩
  ·rename_i Q;exact (E.mem.blk b y O X).map (G b (λe=>Q e.symm)) (λ_ _=>rfl) (λ_ _ h=>BR.mono F h) (λ_ h=>h)
theorem Inv.setnb {n:Nat} {ι0 ι:Inj} {w0:Base} {s:St} {a:Act} {w:World} (C:Inv n ι0 w0 ι s a w) {nb:Nat} (h:s.nb<=nb):
  Inv n ι0 w0 ι { T:=s.T,H:=s.H,nb:=nb,lo:=s.lo,ro:=s.ro,rb:=s.rb } a w:=
 ⟨C.size,C.defers,C.tmps,⟨C.mem.inj,λb q e=>oL (C.mem.low b q e) h,C.mem.dom,C.mem.blk⟩,C.ext,C.new,C.fr,C.low,C.fz,C.gl⟩
theorem Q9 {ι:Inj} {g:Nat} (a:ι g=some none) {x:Value} (h:VR ι .sn x):VR ι (.ws g) x:=by
 simp only [VR] at h ⊢;exact .inr ⟨a,none,h⟩
theorem Bj:∀(ns:List (Nat×List Lf)) (g:Nat) (l:List V) (acc:List (Nat×Blk)) (t:List V) (H:List (Nat×Blk)),nilL g ns l acc=(t,H)->∃m,H=m++acc/\
  ∀{n:Nat} {ι0 ι:Inj} {w0:Base} {s:St} {a:Act} {w:World},Inv n ι0 w0 ι s a w->(∀b,g<=b->b<g+m.length->ι b=none)->∀nb,s.nb<=nb->(m=[]\/g+m.length<=nb)->
   ∃c,(∀b,(b<g\/g+m.length<=b)->c b=ι b)/\(∀b q,ι b=some q->c b=some q)/\(∀k,VRs c l k->VRs c t k)/\
    Inv n ι0 w0 c { T:=s.T,H:=m++s.H,nb:=nb,lo:=s.lo,ro:=s.ro,rb:=s.rb } a w
 | [],g,l,acc,t,H,h=>by
  simp only [nilL,bV] at h;obtain ⟨rfl,rfl⟩:=h;exact ⟨[],rfl,λ{n ι0 ι w0 s a w} z d nb A v=>⟨ι,λ_ _=>rfl,λ_ _ h=>h,λ_ h=>h,z.setnb A⟩⟩
 | (i,tr)::r,g,l,acc,t,H,h=>by
  simp only [nilL] at h;split at h
  ·rename_i hi;obtain ⟨u,rfl,F⟩:=Bj r (g+1) _ _ _ _ h;refine ⟨u++[(g,.rows tr [])],by simp,λ{n ι0 ι w0 s a w} z d nb A v=>?_⟩;have p:(u++[((g,.rows tr []):Nat×Blk)]).length=u.length+1:=by simp
   rw [p] at d v ⊢;have v:g+(u.length+1)<=nb:=v.resolve_left (by simp);have C:=d g (aV _) (by omega);have o:=pT (r:=none) C
   obtain ⟨c,k1,k2,D,k4⟩:=F (z.phantom' C A (by omega) tr) (λb I G=>by
    have:upd ι g none b=ι b:=by simp [upd,show b≠g by omega]
    rw [this];exact d b (by omega) (by omega)) nb (aV _) (.inr (by omega))
   refine ⟨c,λb B=>?_,λb q B=>k2 b q (o b q B),λk hx=>D k ?_,by simpa using k4⟩
   ·rw [k1 b (by omega)];simp [upd,show b≠g by omega]
   ·obtain ⟨x,f,y⟩:=hx.get hi;have:=hx.set i (Q9 (g:=g) (k2 _ _ (dF _ _ _)) y);rwa [show k.set i x=k from by
     apply CS;intro j;rw [List.getElem?_set];split
     ·rename_i e;subst e;split
      ·exact f.symm
      ·rename_i E;rw [gU (by omega)] at f;cases f
     ·rfl] at this
  ·exact Bj r g l acc t H h
theorem SD {α:Type} (l m:List (Nat×α)) (n:Nat):look (l++m) n=(look l n).or (look m n):=by
 induction l with
 | nil=>rfl
 | cons x l ih=>
  obtain ⟨k,v⟩:=x;rw [eW,aY,aY,ih];split<;>rfl
theorem Inv.reH {n:Nat} {ι0 ι:Inj} {w0:Base} {T:List (Nat×Option V)} {A B:List (Nat×Blk)} {b nb lo ro rb:Nat} {l Q:List V} {a:Act} {w:World}
  (E:Inv n ι0 w0 ι ⟨T,A++(b,.cells l)::B,nb,lo,ro,rb⟩ a w) (h:∀O,VRs ι l O->VRs ι Q O):Inv n ι0 w0 ι ⟨T,A++(b,.cells Q)::B,nb,lo,ro,rb⟩ a w:=by
 refine ⟨E.size,E.defers,E.tmps,⟨E.mem.inj,E.mem.low,E.mem.dom,λc y hc G=>?_⟩,E.ext,E.new,E.fr,E.low,E.fz,E.gl⟩;have C:=E.mem.blk c;rw [SD,aY] at hc C;cases J:look A c with
 | some z=>rw [J] at hc C;exact C y hc G
 | none=>
  rw [J] at hc C;simp only [Gw] at hc C;split at hc
  ·rename_i e;rw [ae e] at C;simp only [av] at hc;subst hc;rcases C _ rfl (by simp) with ⟨q,o,W,F,h3⟩ | ⟨_,t,F⟩
   ·obtain ⟨X,e',fr,U,Y,Z⟩:=h3;exact .inl ⟨q,o,W,F,X,e',fr,U,h _ Y,Z⟩
   ·cases F
  ·rename_i e;rw [ab e] at C;exact C y hc G
theorem Inv.reT {n:Nat} {ι0 ι:Inj} {w0:Base} {s:St} {wr:List (Nat×Blk)} {d:Option Nat} {nb:Nat} {v J:V} {a:Act} {w:World}
  (E:Inv n ι0 w0 ι (s.app d (some v) wr nb) a w) (h:∀x,VR ι v x->VR ι J x):Inv n ι0 w0 ι (s.app d (some J) wr nb) a w:=by
 refine ⟨E.size,E.defers,?_,E.mem,E.ext,E.new,E.fr,E.low,E.fz,E.gl⟩;have G:=E.tmps;cases d with
 | none=>exact G
 | some d=>
  intro t u F;have C:=G t;simp only [St.app,aY] at F C;split at F
  ·rename_i e;rw [ae e] at C;simp only [av] at F;subst F;obtain ⟨x,Q,O⟩:=C v rfl;exact ⟨x,Q,h x O⟩
  ·rename_i e;rw [ab e] at C;exact C u F
theorem S0 {P:Program} {t:TypeId} {g:Nat} {v m:V} {f:List (Nat×Blk)} (h:nilV P t g v=(m,f)) {n:Nat} {ι0 ι:Inj} {w0:Base} {s:St} {d:Option Nat} {nb0:Nat} {a:Act} {w:World}
  (p:Inv n ι0 w0 ι (s.app d (some v) [] nb0) a w) (k:∀b,g<=b->b<g+f.length->ι b=none) {nb:Nat} (q:nb0<=nb) (o:f=[]\/g+f.length<=nb):
  ∃c,(∀b,(b<g\/g+f.length<=b)->c b=ι b)/\Inv n ι0 w0 c (s.app d (some m) f nb) a w:=by
 have j:(v,([]:List (Nat×Blk)))=(m,f)->∃c,(∀b,(b<g\/g+f.length<=b)->c b=ι b)/\Inv n ι0 w0 c (s.app d (some m) f nb) a w:=by
  intro e;simp only [bV] at e;obtain ⟨rfl,rfl⟩:=e;exact ⟨ι,λ_ _=>rfl,p.setnb q⟩
 unfold nilV at h;split at h
 ·split at h
  ·rename_i i tr r I;simp only [bV] at h;obtain ⟨rfl,rfl⟩:=h;have C:=k g (aV _) (by simp);have o:g+1<=nb:=by simpa using o
   have:=p.phantom' C q o tr;exact ⟨upd ι g none,λb B=>by simp only [List.length_singleton] at B;simp [upd,show b≠g by omega],Inv.reT (s:=s) (wr:=[(g,.rows tr [])]) (v:=.sn) this λx hx=>Q9 (dF _ _ _) hx⟩
  ·exact j h
 ·rename_i l;split at h;rename_i H u A;simp only [bV] at h;obtain ⟨rfl,rfl⟩:=h;obtain ⟨G,e,D⟩:=Bj _ _ _ _ _ _ A;rw [ln] at e;subst e;obtain ⟨c,k1,k2,y,k4⟩:=D p k nb q o;refine ⟨c,k1,Inv.reT (s:=s) (wr:=u) (v:=.ag l) k4 λx hx=>?_⟩;simp only [VR] at hx ⊢;obtain ⟨F,E,z⟩:=hx;exact ⟨F,E,y _ z⟩
 ·exact j h
theorem RN (nb fr:Nat):∀g,g=0\/fr+g<=nbOf nb fr g
 | 0=>.inl rfl
 | _+1=>.inr (Nat.le_max_right _ _)
theorem xK {P:Program} {fr:Nat} {o:Oper} {e:Eff} {v:Option V} {wr:List (Nat×Blk)} {g:Nat} (h:zq P fr o e=(v,wr,g)) (c:g=0):e.new=false\/e.wr=none:=by
 unfold zq at h;split at h
 ·rename_i a;exact .inr a
 ·split at h
  ·rename_i b;exact .inl b
  ·split at h
   ·split at h;simp only [bV] at h;omega
   ·simp only [bV] at h;omega
theorem J5 {P:Program} {fr nb:Nat} {o:Oper} {e:Eff} {v:Option V} {wr:List (Nat×Blk)} {g:Nat} (h:zq P fr o e=(v,wr,g)):
  (if e.new=true/\e.wr≠none then max nb (fr+1) else nb)<=nbOf nb fr g:=by
 cases g with
 | zero=>
  have:=xK h rfl;rw [ab (λhc=>by rcases this with h | h;rw [h] at hc;cases hc.1;exact hc.2 h)];exact aV _
 | succ g=>
  simp only [nbOf];split<;>omega
theorem gI.new_eq {ι:Inj} {f:Nat} {o:Oper} {a:Act} {w:World} {e:Eff} (h:gI P ι f o a w e) {C:Nat×Blk} (E:e.wr=some C) (F:e.new=true):C.1=f:=by
 unfold gI at h;rw [E] at h;simp only [F] at h;exact h.1
theorem CY {P:Program} {fr:Nat} {o:Oper} {e:Eff} {v:Option V} {wr:List (Nat×Blk)} {g:Nat} (h:zq P fr o e=(v,wr,g)) {n:Nat} {ι0 ι:Inj} {w0:Base} {s:St} {nb0 nb:Nat} {a:Act} {w:World}
  (k:Inv n ι0 w0 ι (s.app o.dst e.val e.wr.toList nb0) a w) (r:∀b,fr<=b->b<fr+g->(b=fr->e.wr=none)->ι b=none) (J:∀m,e.wr=some m->e.new=true->m.1=fr) (z:nb0<=nb) (D:g=0\/fr+g<=nb):
  ∃f,(∀b,(b<fr\/fr+g<=b)->f b=ι b)/\Inv n ι0 w0 f (s.app o.dst v wr nb) a w:=by
 have i:(e.val,e.wr.toList)=(v,wr)->∃f,(∀b,(b<fr\/fr+g<=b)->f b=ι b)/\Inv n ι0 w0 f (s.app o.dst v wr nb) a w:=by
  intro e;simp only [bV] at e;obtain ⟨rfl,rfl⟩:=e;exact ⟨ι,λ_ _=>rfl,k.setnb z⟩
 unfold zq at h;split at h
 ·rename_i j;rw [j] at k i;split at h
  ·rename_i t u T K;split at h;rename_i Q H G;simp only [bV] at h;obtain ⟨rfl,rfl,rfl⟩:=h;rw [K] at k;obtain ⟨f,k1,k2⟩:=S0 G (d:=o.dst) (s:=s) k (λb x F=>r b x F λ_=>j) z (D.imp (λh=>ur h) id);exact ⟨f,k1,k2⟩
  ·simp only [bV] at h;exact i (by simp [h.1,h.2.1])
 ·rename_i m j;rw [j] at i;split at h
  ·simp only [bV] at h;exact i (by simp [h.1,h.2.1])
  ·rename_i y;split at h
   ·rename_i t l M p;split at h;rename_i R H I;simp only [bV] at h;obtain ⟨rfl,rfl,rfl⟩:=h;obtain ⟨N,C,L⟩:=Bj _ _ _ _ _ _ I;rw [ln] at C;subst C;rw [j] at k;have x:=J m j y;obtain ⟨b,blk⟩:=m;simp only at p x;subst p x;obtain ⟨f,k1,k2,E,k4⟩:=L k (λc S O=>r c (by omega) (by omega) (λq=>by omega)) nb z (D.elim (λh=>by omega) λh=>.inr (by omega));refine ⟨f,λc hc=>k1 c (by omega),?_⟩;have:=Inv.reH (A:=H) (B:=s.H) (b:=b) k4 E;simpa [St.app] using this
   ·simp only [bV] at h;exact i (by simp [h.1,h.2.1])
theorem Ro {ι:Inj} {T:List (Nat×Option V)} {a:Act} (c:TR ι T a.tmps) {g:Operand} {f:Nat} {cap:List V} (h:opd T g=some (.fn f cap)):
  ∃b:Array Value,a.eval g=fnV f b/\VRs ι cap b.toList:=by
 have:=bA c h;simpa only [VR] using this
theorem zF {wr:List (Nat×Blk)} {ι:Inj} {b:Nat} {r:Option Rf} (h:vz wr ι b=some r):∃x∈wr,x.1=b:=by
 unfold vz at h;split at h
 ·rename_i c;obtain ⟨x,hx,a⟩:=sN.1 c;exact ⟨x,hx,bC a⟩
 ·cases h
theorem EA (wr:List (Nat×Blk)) (ι:Inj):∀b r,vz wr ι b=some r->ι b=some r:=by
 intro b r h;unfold vz at h;split at h
 ·exact h
 ·cases h
theorem Pq {K f:Nat} {ι:Inj} {o:Oper} {a:Act} {g:Operand} {args:Array Operand} {d:Array TypeId} {c:Array Value} {cap l:List V} (i:o.op=.call ⟨.value g,args,d⟩)
  (b:a.eval g=fnW K f c) (h:VRs ι cap c.toList) (e:VRs ι l (args.toList.map a.eval)) (w:World):
  ∃as:Array Value,VRs ι (fnAW K f l cap) as.toList/\(execOp a.eval o).run P w=(callFunc (fnFW K f) as).run P w:=by
 unfold fnAW fnFW;unfold fnW at b;cases j:Nat.blt f K<;>rw [j] at b<;>simp only at b ⊢
 ·refine ⟨c++args.map a.eval,by simpa using h.append e,?_⟩;simp only [execOp,i,resolve,b,Deferred.ofValue,Array.append_empty,ax,aD,az,invoke]
 ·refine ⟨args.map a.eval++c,by simpa using e.append h,?_⟩;simp only [execOp,i,resolve,b,Deferred.ofValue,Array.empty_append,ax,aD,az,invoke]
theorem BL {n fr:Nat} {ι0 ι:Inj} {w0:Base} {s:St} {o:Oper} {a:Act} {w:World} {g:Operand} {args:Array Operand} {X:Array TypeId} {f:Nat} {cap l:List V} {r:CR}
  (ho:o.op=.call ⟨.value g,args,X⟩) (d:Inv n ι0 w0 ι s a w) (K:∀b,fr<=b->b<fr+r.grow->ι b=none) (hd:vc n o.dst=true)
  (hg:opd s.T g=some (.fn f cap)) (hl:opds (opd s.T) args.toList=some l) (A:r.wr.all (λx=>Nat.ble s.ro x.1)=true)
  (B:r.kill.all (λb=>Nat.ble s.rb b)=true) (hc:GoOK P (fnF f) (fnA f l cap) s.H fr r)
  {next:Act->World->Prop} {Q:Exit->Act->World->Prop}
  (hn:r.pan=false->∀i a' w',(∀b,isIn r.kill b=false->(b<fr\/fr+r.grow<=b)->i b=ι b)->Inv n ι0 w0 i ((s.kill r.kill).app o.dst (some r.val) r.wr (max s.nb (fr+r.grow))) a' w'->next a' w')
  (hp:r.pan=true->∀i x w',VR i r.val x->Inv n ι0 w0 i ((s.kill r.kill).app none none r.wr (max s.nb (fr+r.grow))) a w'->Q (.panic [{ v:=x,recovered:=false }]) a w'):
  o.wp P a w next Q:=by
 obtain ⟨cs,h1,h2⟩:=Ro d.tmps hg;have h3:=yL d.tmps hl;obtain ⟨as,G,z⟩:=Pq (P:=P) ho (show a.eval g=fnW 1000000 f cs from h1) h2 h3 w;rcases hc with ⟨hE,hc⟩ | ⟨a1,a2,a3,a4,J⟩
 case inr=>
  obtain ⟨x,D,hx⟩:=J ι w as G;have m:(execOp a.eval o).run P w=.ok (.value x) w:=by rw [z];exact D
  unfold Oper.wp;rw [m];refine hn a1 ι _ _ (λ_ _ _=>rfl) ?_;rw [a2,a3,a4,cP];refine ⟨by rw [nz];exact d.size,by rw [jx];exact d.defers,TR.app (s:=s) d.tmps d.size hd (λu hu=>by cases hu;exact hx),?_,d.ext,d.new,d.fr,d.low,d.fz,d.gl⟩;exact ⟨d.mem.inj,λb q F=>oL (d.mem.low b q F) (F3 _ _),d.mem.dom,d.mem.blk⟩
 have m:(execOp a.eval o).run P w=.ok (.enter (fnF f) as) w:=by rw [z];exact hE _ _
 unfold Oper.wp;rw [m];simp only [Oper.upon];refine (hc ι s.nb w as d.mem (d.glHere λb q j=>by
  obtain ⟨x,hx,rfl⟩:=zF j;exact ⟨EA r.wr ι x.1 _ j,aL (cv.1 A x hx)⟩) (λx hx q F=>by
  cases hc:q.fz with
  | false=>rfl
  | true=>have:=d.fz x.1 q F hc;have:=aL (cv.1 A x hx);omega) (λb O hb2=>K b O (by omega)) G).mono λe w' h=>?_
 obtain ⟨i,S,g0,g2,g6,g3,g4,U⟩:=h;have L:∀b q,i b=some (some q)->q.fz=true->b<s.ro:=λb q j F=>d.fz b q (g6 b q j F) F;have I:∀b,isIn r.kill b=true->s.rb<=b:=by
  intro b j;obtain ⟨c,Z,M⟩:=sN.1 j;rw [bC M];exact aL (cv.1 B c Z)
 have p:∀b,isIn r.kill b=false->∀q,ι b=some q->i b=some q:=by
  intro b C q j;rw [S b C ?_];exact j;rcases aH b fr with h | h
  ·exact .inl h
  ·rcases aH b (fr+r.grow) with h' | h'
   ·have:=K b h (by omega);rw [this] at j;cases j
   ·exact .inr h'
 have k:∀b q,ι0 b=some q->i b=some q\/s.rb<=b:=by
  intro b q j;rcases d.ext b q j with h | h
  ·cases C:isIn r.kill b with
   | true=>exact .inr (I b C)
   | false=>exact .inl (p b C q h)
  ·exact .inr h
 have y:∀b q,i b=some (some q)->(∃E,ι0 b=some (some E)/\E.r=q.r)\/w0.w.heap.size<=q.r:=by
  intro b q j;cases C:isIn r.kill b with
  | true=>
   rcases g0 b q C j with ⟨E,R,h7⟩ | R
   ·rw [<-h7];exact d.new b E R
   ·exact .inr (qR d.fr.size R)
  | false=>
   by_cases N:b<fr\/fr+r.grow<=b
   ·rw [S b C N] at j;exact d.new b q j
   ·have:=g2 b q (by omega) (by omega) j;exact .inr (qR d.fr.size this)
 have t:Fr (roI ι0 s.ro) w0.w w':=d.fr.trans (λb q j=>by
  obtain ⟨x,hx,rfl⟩:=zF j;have h1:=aL (cv.1 A x hx);exact (d.new x.1 q (EA r.wr ι x.1 _ j)).imp (λ⟨E,h,hr⟩=>⟨E,Dw h h1,hr⟩) id) g4
 have hT:=d.tmps.kill p;rw [St.kill_eq] at hn hp;cases e with
 | returned x=>
  obtain ⟨p1,W⟩:=U;refine hn p1 i _ _ S ⟨by rw [nz];exact d.size,by rw [jx];exact d.defers,TR.app (s:={ T:=vM r.kill s.T,H:=AK r.kill s.H,nb:=s.nb,lo:=s.lo,ro:=s.ro,rb:=s.rb }) hT d.size hd (λu hu=>by cases hu;exact W),g3,k,y,t,d.low,L,d.gl⟩
 | panicked Y=>
  obtain ⟨p1,x,rfl,W⟩:=U;exact hp p1 i x _ W ⟨d.size,d.defers,hT,g3,k,y,t,d.low,L,d.gl⟩
 | outgrown=>exact U.elim
theorem HZ {α:Type} {E:List Ent} (hE:∀x∈E,fW P x) {n fr:Nat} {ι0 ι:Inj} {w0:Base} {s:St} {o:Oper} {a:Act} {w:World} (H:Inv n ι0 w0 ι s a w)
  (G:∀b,fr<=b->b<fr+8->ι b=none) {k:St->List Nat->List (Nat×Blk)->Nat->Option α} {kp:V->St->Option α} {z:α} (h:DZ P E n fr o s k kp=some z)
  {next:Act->World->Prop} {Q:Exit->Act->World->Prop}
  (hn:∀s' rd wr g c m w',k s' rd wr g=some z->(∀b,(b<fr\/fr+g<=b)->c b=ι b)->Inv n ι0 w0 c s' m w'->next m w')
  (hp:∀v s' c x m w',kp v s'=some z->VR c v x->Inv n ι0 w0 c s' m w'->Q (.panic [{ v:=x,recovered:=false }]) m w'):
  o.wp P a w next Q:=by
 have T:ι fr=none:=G fr (aV _) (by omega);unfold DZ at h;split at h
 ·cases h
 rename_i hd;have J:uV P fr o s k=some z->o.wp P a w next Q:=by
  intro h;unfold uV at h;obtain ⟨e,O,L⟩:=J0 H.tmps H.mem T h;split at O;rename_i v wr g A;split at O
  case h_2=>cases O
  rename_i K;simp only [aA] at K;have W:=aL K.2;have D:∀N,e.wr=some N->e.new=true->N.1=fr:=λN S B=>gI.new_eq L S B;refine Hm H T hd L (λB N S=>by
   have:=K.1;unfold roOK at this;rw [S] at this;simp only [B] at this;exact aL this) λc m w' u g2 d=>?_
  obtain ⟨Y,k1,k2⟩:=CY A d (λb U e2 e3=>by
   by_cases i:b=fr
   ·subst i;rw [g2 (.inr (e3 rfl))];exact T
   ·rw [u b i];exact G b U (by omega)) D (nb:=nbOf s.nb fr g) (J5 A) (RN s.nb fr g)
  refine hn _ _ _ _ Y m w' O (λb Z=>?_) k2;rw [k1 b Z];by_cases i:b=fr
  ·subst i;refine g2 (xK A (by omega))
  ·exact u b i
 split at h
 ·rename_i cl C;split at h
  ·rename_i g q;split at h
   ·rename_i f cap hg;obtain ⟨l,hl,h⟩:=aw h;obtain ⟨r,I,h3⟩:=wm hE h;split at I
    ·cases I
    rename_i p;simp only [aA] at p;have F:r.kill=[]:=by simpa using p.2.2
    have W:=aL p.1;obtain ⟨R,args,tys⟩:=cl;simp only at q;subst q;refine BL C H (λb U e2=>G b U (by omega)) hd hg hl p.2.1 (by rw [F];rfl) (h3 _ λ_ _=>rfl) (λj c m w' u d=>?_) (λj c x w' u d=>?_)
    ·rw [j] at I;rw [F] at u d;exact hn _ _ _ _ c m w' I (λb K=>u b rfl K) d
    ·rw [j] at I;rw [F] at d;exact hp _ _ c x a w' I u d
   ·cases h
  ·exact J h
 ·rename_i x C;split at h
  ·rename_i t v hx;have X:=bA H.tmps hx;have hv':=X;simp only [VR] at X;obtain ⟨y,h6,_⟩:=X;unfold Oper.wp;have M:(execOp a.eval o).run P w=.halt (.panic (.iface t y)) w:=by
    simp only [execOp,C,h6,Instr.panic,ax,run_goPanic,Result.andThen_halt]
   rw [M];exact hp _ _ ι _ a w h (h6▸hv') H
  ·cases h
 ·exact J h
theorem TR.again {ι:Inj} {T:List (Nat×Option V)} {F:Array Value} (E:TR ι T F) {d:Nat} {v:V} (G:look T d=some (some v)):TR ι ((d,some v)::T) F:=by
 intro t u C;rw [aY] at C;split at C
 ·rename_i e;subst e;simp only [av] at C;subst C;exact E d v G
 ·exact E t u C
theorem Inv.again {n:Nat} {ι0 ι:Inj} {w0:Base} {s:St} {a:Act} {w:World} (h:Inv n ι0 w0 ι s a w) {d:Nat} {v:V} (C:look s.T d=some (some v)):
  Inv n ι0 w0 ι { s with T:=(d,some v)::s.T } a w:=
 ⟨h.size,h.defers,h.tmps.again C,h.mem,h.ext,h.new,h.fr,h.low,h.fz,h.gl⟩
theorem sA {ops:List Oper} {j d:Nat} (h:gtmp ops j=some d) (a:Array Value):
  yielded ops.toArray a j=match a[d]? with | some (.bool b)=>some b | _=>none:=by
 unfold gtmp at h;split at h
 ·rename_i o c;have:(ops.toArray[j]?).bind (·.dst)=some d:=by simp [c,h]
  unfold yielded;rw [this];rfl
 ·cases h
theorem Nz {α:Type} {n:Nat} {ι0 ι:Inj} {w0:Base} {ops:List Oper} {o:Oper} {s:St} {a:Act} {w:World} (f:Inv n ι0 w0 ι s a w) {k:Bool->St->Option α} {z:α}
  (h:xF ops o s k=some z):∃c s',k c s'=some z/\Inv n ι0 w0 ι s' a w/\Region.wanted o (yielded ops.toArray a.tmps)=c/\(∀t,look s'.T t=look s.T t)/\s'.H=s.H/\s'.nb=s.nb:=by
 unfold xF at h;split at h
 ·rename_i i;exact ⟨true,s,h,f,by simp [Region.wanted,i],λ_=>rfl,rfl,rfl⟩
 ·rename_i j c i;split at h
  case h_2=>cases h
  rename_i d m;have hy:=sA m a.tmps;have again:∀x,look s.T d=some (some (.b x))->∀t,look ((d,some (V.b x))::s.T) t=look s.T t:=by
   intro x hx t;rw [aY];split
   ·rename_i e;subst e;exact hx.symm
   ·rfl
  split at h
  ·rename_i x hx;obtain ⟨y,l,g⟩:=f.tmps d _ hx;simp only [VR] at g;subst g;rw [l] at hy;cases x
   ·exact ⟨!c,_,h,f.again hx,by cases c<;>simp [Region.wanted,i,hy],again _ hx,rfl,rfl⟩
   ·exact ⟨c,_,h,f.again hx,by cases c<;>simp [Region.wanted,i,hy],again _ hx,rfl,rfl⟩
  ·rename_i hx;obtain ⟨y,l,g⟩:=f.tmps d _ hx;simp only [VR] at g;obtain ⟨p,rfl,_⟩:=g;rw [l] at hy;exact ⟨false,s,h,f,by simp [Region.wanted,i,hy],λ_=>rfl,rfl,rfl⟩
  ·cases h
theorem QA (ι:Inj):VR ι (.tp []) undef:=by
 simp only [VR];exact ⟨#[],rfl,by simp [VRs]⟩
theorem Inv.skip {n:Nat} {ι0 ι:Inj} {w0:Base} {s:St} {a:Act} {w:World} (h:Inv n ι0 w0 ι s a w) {d:Option Nat} (E:vc n d=true):
  Inv n ι0 w0 ι (s.app d (some (.tp [])) [] s.nb) (a.put d undef) w:=
 ⟨by rw [nz];exact h.size,by rw [jx];exact h.defers,h.tmps.app h.size E (λu C=>by cases C;exact QA ι),h.mem,h.ext,h.new,h.fr,h.low,h.fz,h.gl⟩
theorem Inv.fresh {n:Nat} {ι0 ι:Inj} {w0:Base} {s:St} {a:Act} {w:World} (h:Inv n ι0 w0 ι s a w):∀b,s.nb<=b->ι b=none:=by
 intro b C;cases hi:ι b with
 | none=>rfl
 | some r=>have:=h.mem.low b r hi;omega
end Go.Abs
