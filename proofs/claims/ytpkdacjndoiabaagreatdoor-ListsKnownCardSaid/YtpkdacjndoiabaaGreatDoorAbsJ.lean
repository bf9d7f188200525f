/- The interpreter is sound: what it comes to is what the model's code comes to.
   Conditions: none; generic over the program. -/
import Derived.Test.YtpkdacjndoiabaaGreatDoorAbsI
set_option linter.unusedSimpArgs false
namespace Go.Abs
variable {P:Program}
def m4 (P:Program) (f:Nat):Prop:=∀(args:Array Value) (w:World),(callFunc f args).run P w=.ok (.enter f args) w
def RetR (ι:Inj) (r:CR):Ending->Prop
 | .returned x=>r.pan=false/\VR ι r.val x
 | .panicked chain=>r.pan=true/\∃x,chain=[{ v:=x,recovered:=false }]/\VR ι r.val x
 | .outgrown=>False
def uF (wr:List (Nat×Blk)) (ι:Inj):Inj:=λb=>if wr.any (λx=>Nat.beq x.1 b) then ι b else none
def EL (P:Program) (f:Nat) (args:List V) (H:List (Nat×Blk)) (fr:Nat) (r:CR):Prop:=
 ∀(ι:Inj) (nb:Nat) (w:World) (xs:Array Value),WR ι H nb w->GL (uF r.wr ι) w->(∀x∈r.wr,∀q,ι x.1=some (some q)->q.fz=false)->(∀b,fr<=b->b<fr+r.grow->ι b=none)->VRs ι args xs.toList->
  Calls P f xs w λe w'=>∃ι':Inj,(∀b,isIn r.kill b=false->(b<fr\/fr+r.grow<=b)->ι' b=ι b)/\
   (∀b q,isIn r.kill b=true->ι' b=some (some q)->(∃q',ι b=some (some q')/\q'.r=q.r)\/w.heap.size<=q.r)/\(∀b q,fr<=b->b<fr+r.grow->ι' b=some (some q)->w.heap.size<=q.r)/\(∀b q,ι' b=some (some q)->q.fz=true->ι b=some (some q))/\
   WR ι' (r.wr++zQ r.kill H) (max nb (fr+r.grow)) w'/\Fr (uF r.wr ι) w w'/\RetR ι' r e
mutual
theorem VR.kill {ι ι':Inj} {K:List Nat} (h:∀b,isIn K b=false->∀q,ι b=some q->ι' b=some q):∀(v:V) (x:Value),VR ι v x->VR ι' (V.kill K v) x
 | .b _,_,hx | .i _ _,_,hx | .s _,_,hx | .pn,_,hx | .sn,_,hx | .nf,_,hx | .ni,_,hx | .ai _ _ _,_,hx | .unk,_,hx=>by simpa only [V.kill,VR] using hx
 | .p c o,x,hx=>by
  simp only [VR] at hx
  obtain ⟨q,h1,rfl⟩:=hx
  simp only [V.kill]
  cases hc:isIn K c with
  | true=>simp [VR,Value.cells,Value.oneCell']
  | false=>simp only [af,VR];exact ⟨q,h c hc _ h1,rfl⟩
 | .mp c,x,hx=>by
  simp only [VR] at hx
  obtain ⟨q,h1,rfl⟩:=hx
  simp only [V.kill]
  cases hc:isIn K c with
  | true=>simp [VR,Value.cells,Value.oneCell']
  | false=>simp only [af,VR];exact ⟨q,h c hc _ h1,rfl⟩
 | .pr z c j o,x,hx=>by
  simp only [VR] at hx
  obtain ⟨q,h1,rfl⟩:=hx
  simp only [V.kill]
  cases hc:isIn K c with
  | true=>simp [VR,Value.cells,Value.oneCell']
  | false=>simp only [af,VR];exact ⟨q,h c hc _ h1,rfl⟩
 | .sl c o n m,x,hx=>by
  simp only [VR] at hx
  obtain ⟨q,cp,h1,h2,h3,rfl⟩:=hx
  simp only [V.kill]
  cases hc:isIn K c with
  | true=>simp [VR,Value.cells,Value.oneCell']
  | false=>simp only [af,VR];exact ⟨q,cp,h c hc _ h1,h2,h3,rfl⟩
 | .ws c,x,hx=>by
  simp only [VR] at hx
  simp only [V.kill]
  cases hc:isIn K c with
  | true=>rcases hx with ⟨q,h1,rfl⟩ | ⟨h1,ao,rfl⟩<;>simp [VR,Value.cells,Value.oneCell']
  | false=>
   simp only [af,VR]
   rcases hx with ⟨q,h1,rfl⟩ | ⟨h1,ao,rfl⟩
   ·exact .inl ⟨q,h c hc _ h1,rfl⟩
   ·exact .inr ⟨h c hc _ h1,ao,rfl⟩
 | .rs z c j n _,x,hx=>by
  simp only [VR] at hx
  simp only [V.kill]
  cases hc:isIn K c with
  | true=>rcases hx with ⟨q,cp,o,h1,h2,h3,rfl⟩ | ⟨h1,h2,ao,rfl⟩<;>simp [VR,Value.cells,Value.oneCell']
  | false=>
   simp only [af,VR]
   rcases hx with ⟨q,cp,o,h1,h2,h3,rfl⟩ | ⟨h1,h2,ao,rfl⟩
   ·exact .inl ⟨q,cp,o,h c hc _ h1,h2,h3,rfl⟩
   ·exact .inr ⟨h c hc _ h1,h2,ao,rfl⟩
 | .fn f cap,x,hx=>by
  simp only [V.kill,VR] at hx ⊢
  obtain ⟨cs,h1,h2⟩:=hx
  exact ⟨cs,h1,VRs.kill h _ _ h2⟩
 | .it t v,x,hx=>by
  simp only [V.kill,VR] at hx ⊢
  obtain ⟨y,h1,h2⟩:=hx
  exact ⟨y,h1,VR.kill h _ _ h2⟩
 | .ag l,x,hx=>by
  simp only [V.kill,VR] at hx ⊢
  obtain ⟨cs,h1,h2⟩:=hx
  exact ⟨cs,h1,VRs.kill h _ _ h2⟩
 | .tp l,x,hx=>by
  simp only [V.kill,VR] at hx ⊢
  obtain ⟨cs,h1,h2⟩:=hx
  exact ⟨cs,h1,VRs.kill h _ _ h2⟩
theorem VRs.kill {ι ι':Inj} {K:List Nat} (h:∀b,isIn K b=false->∀q,ι b=some q->ι' b=some q):∀(l:List V) (xs:List Value),VRs ι l xs->VRs ι' (V.kills K l) xs
 | [],_,hx=>by simpa [V.kills,VRs] using hx
 | v::l,xs,hx=>by
  simp only [V.kills,VRs] at hx ⊢
  obtain ⟨y,ys,h1,h2,h3⟩:=hx
  exact ⟨y,ys,h1,VR.kill h _ _ h2,VRs.kill h _ _ h3⟩
end
theorem BR.kill {ι ι':Inj} {K:List Nat} (h:∀b,isIn K b=false->∀q,ι b=some q->ι' b=some q) {q:Rf}:∀{blk:Blk} {o:Obj},BR ι q blk o->BR ι' q (blk.kill K) o
 | .dead,_,_=>trivial
 | .rows t l,o,hb=>hb
 | .cells l,o,hb=>by
  obtain ⟨cs,e,fr,h1,h2,h3⟩:=hb
  exact ⟨cs,e,fr,h1,VRs.kill h _ _ h2,h3⟩
 | .ints k n l,o,hb=>hb
 | .iter s pos,o,hb=>hb
 | .mp k l,o,hb=>hb
theorem uv (K:List Nat):∀(T:List (Nat×Option V)) (t:Nat),look (uU K T) t=(look T t).map (Option.map (V.kill K))
 | [],t=>rfl
 | (u,none)::T,t=>by
  simp only [uU,aU,uv K T]
  split<;>rfl
 | (u,some v)::T,t=>by
  simp only [uU,aU,uv K T]
  split<;>rfl
theorem ue (K:List Nat):∀(H:List (Nat×Blk)) (b:Nat),look (zQ K H) b=(look H b).map (Blk.kill K)
 | [],t=>rfl
 | (u,v)::T,t=>by
  simp only [zQ,aU,ue K T]
  split<;>rfl
theorem TR.kill {ι ι':Inj} {K:List Nat} (h:∀b,isIn K b=false->∀q,ι b=some q->ι' b=some q) {T:List (Nat×Option V)} {tm:Array Value} (ht:TR ι T tm):TR ι' (uU K T) tm:=by
 intro t v hv
 rw [uv] at hv
 cases hl:look T t with
 | none=>simp [hl] at hv
 | some o=>
  cases o with
  | none=>simp [hl] at hv
  | some u=>
   simp only [hl,eK,aq] at hv
   subst hv
   obtain ⟨x,h1,h2⟩:=ht t u hl
   exact ⟨x,h1,VR.kill h _ _ h2⟩
mutual
theorem V.kill_nil:∀v:V,V.kill [] v=v
 | .b _ | .i _ _ | .s _ | .pn | .sn | .nf | .ni | .ai _ _ _ | .unk | .p _ _ | .pr _ _ _ _ | .sl _ _ _ _ | .ws _ | .rs _ _ _ _ _ | .mp _=>rfl
 | .fn f l | .ag l | .tp l=>by simp only [V.kill,V.kills_nil l]
 | .it t v=>by simp only [V.kill,V.kill_nil v]
theorem V.kills_nil:∀l:List V,V.kills [] l=l
 | []=>rfl
 | v::l=>by simp only [V.kills,V.kill_nil v,V.kills_nil l]
end
theorem tR:∀H:List (Nat×Blk),zQ [] H=H
 | []=>rfl
 | (b,x)::H=>by
  simp only [zQ,tR H]
  cases x<;>simp only [Blk.kill,V.kills_nil]
theorem xu:∀T:List (Nat×Option V),uU [] T=T
 | []=>rfl
 | (b,none)::T=>by simp only [uU,xu T]
 | (b,some x)::T=>by simp only [uU,xu T,V.kill_nil]
theorem St.kill_eq (K:List Nat) (s:St):s.kill K={ T:=uU K s.T,H:=zQ K s.H,nb:=s.nb,lo:=s.lo,ro:=s.ro,rb:=s.rb }:=by
 cases K with
 | nil=>simp only [St.kill,xu,tR]
 | cons b K=>rfl
def Vz (P:Program) (f:Nat) (args:List V) (r:CR):Prop:=
 r.pan=false/\r.wr=[]/\r.grow=0/\r.kill=[]/\∀(ι:Inj) (w:World) (xs:Array Value),VRs ι args xs.toList->∃x,(callFunc f xs).run P w=.ok (.value x) w/\VR ι r.val x
def GoOK (P:Program) (f:Nat) (args:List V) (H:List (Nat×Blk)) (fr:Nat) (r:CR):Prop:=(m4 P f/\EL P f args H fr r)\/Vz P f args r
def gN (P:Program) (x:Ent):Prop:=
 ∀(α:Type) (args:List V) (H:List (Nat×Blk)) (fr:Nat) (k:CR->Option α) (z:α),x.e α args H fr k=some z->
  ∃r,k r=some z/\∀H',(∀b∈r.rd,look H' b=look H b)->GoOK P x.f args H' fr r
theorem vd {α:Type} {f:Nat} {args:List V} {H:List (Nat×Blk)} {fr:Nat} {k:CR->Option α} {z:α}:∀{E:List Ent},(∀x∈E,gN P x)->GZ α f args H fr k E=some z->
  ∃r,k r=some z/\∀H',(∀b∈r.rd,look H' b=look H b)->GoOK P f args H' fr r
 | [],_,h=>by simp [GZ] at h
 | x::E,hE,h=>by
  simp only [GZ] at h
  cases hb:Nat.beq x.f f with
  | true=>
   rw [hb] at h
   have hf:=bE hb
   subst hf
   exact hE x (by simp) α args H fr k z h
  | false=>
   rw [hb] at h
   exact vd (λy hy=>hE y (gq _ hy)) h
def ExR (ι:Inj):Ex->Exit->Prop
 | .normal,e=>e=.normal
 | .exit id,e=>e=.exit id
 | .ret,e=>e=.ret
 | .pan v,e=>∃x,e=.panic [{ v:=x,recovered:=false }]/\VR ι v x
def Post (n:Nat) (ι0:Inj) (w0:Base) (Φ:Ex->St->Prop):Exit->Act->World->Prop:=
 λe a w=>∃ex s ι,ExR ι ex e/\Inv n ι0 w0 ι s a w/\Φ ex s
def SemC (P:Program) (n:Nat) (c:Code) (s:St) (Φ:Ex->St->Prop):Prop:=
 ∀(ι0:Inj) (w0:Base) (ι:Inj) (a:Act) (w:World),Inv n ι0 w0 ι s a w->c.wp P (Post n ι0 w0 Φ) a w
def jC (P:Program) (n:Nat) (L:List Sub):AC->Prop
 | .seq a b | .cond _ a b=>jC P n L a/\jC P n L b
 | .block _ a | .scope a | .loop a=>jC P n L a
 | .sub m c=>∀(α:Type) (s:St) (k:Ex->St->Option α) (z:α),Hy α m s k L=some z->SemC P n c.code s λex s'=>k ex s'=some z
 | _=>True
theorem Fr.trans {ι0 κ:Inj} {w0 w w':World} (h:Fr ι0 w0 w) (hk:∀b q,κ b=some (some q)->(∃q',ι0 b=some (some q')/\q'.r=q.r)\/w0.heap.size<=q.r) (h':Fr κ w w'):Fr ι0 w0 w':=by
 refine ⟨h'.os.trans h.os,h'.tape.trans h.tape,h'.output.trans h.output,qC h.size h'.size,λk hlt hno=>?_⟩
 rw [h'.blk k (qj hlt h.size) ?_,h.blk k hlt hno]
 intro b q hb
 rcases hk b q hb with ⟨q',h1,h2⟩ | h1
 ·rw [<-h2];exact hno b q' h1
 ·omega
theorem mP (a:Act) (d:Option Nat) (v:Value):(a.put d v).tmps.size=a.tmps.size:=by
 cases d<;>simp [Act.put]
theorem je (a:Act) (d:Option Nat) (v:Value):(a.put d v).defers=a.defers:=by
 cases d<;>rfl
theorem TR.app {ι:Inj} {s:St} {a:Act} {n:Nat} {d:Option Nat} {v:Option V} {x:Value} {wr:List (Nat×Blk)} {nb:Nat} (ht:TR ι s.T a.tmps) (hs:a.tmps.size=n) (hd:ul n d=true)
  (hv:∀u,v=some u->VR ι u x):TR ι (s.app d v wr nb).T (a.put d x).tmps:=by
 cases d with
 | none=>exact ht
 | some d=>exact ht.put (by rw [hs];exact aI hd) hv
theorem Inv.drawn {n:Nat} {ι0 ι:Inj} {w0:Base} {s:St} {a:Act} {w:World} (h:Inv n ι0 w0 ι s a w) (m:Nat):Inv n ι0 w0 ι s a { w with drawn:=m }:=
 ⟨h.size,h.defers,h.tmps,h.mem.draws m,h.ext,h.new,h.fr.draws m,h.low,h.fz,h.gl⟩
theorem EG {n fr:Nat} {ι0 ι:Inj} {w0:Base} {s:St} {o:Oper} {a:Act} {w:World} {e:Eff} (hI:Inv n ι0 w0 ι s a w) (hf:ι fr=none) (hd:ul n o.dst=true)
  (h:gz P ι fr o a w e) (hro:e.new=false->∀bb,e.wr=some bb->s.ro<=bb.1) {next:Act->World->Prop} {Q:Exit->Act->World->Prop}
  (hn:∀ι' a' w',(∀b,b≠fr->ι' b=ι b)->(e.new=false\/e.wr=none->ι' fr=ι fr)->
   Inv n ι0 w0 ι' (s.app o.dst e.val e.wr.toList (if e.new=true/\e.wr≠none then max s.nb (fr+1) else s.nb)) a' w'->next a' w'):
  o.wp P a w next Q:=by
 have fin:∀{x:Next} {w':World} {ι':Inj},(execOp a.eval o).run P w=.ok x w'->NextR ι' e.val x->(∀y,(∀u,e.val=some u->VR ι' u y)->next (a.put o.dst y) w')->o.wp P a w next Q:=by
  intro x w' ι' hr hx hy
  unfold Oper.wp
  rw [hr]
  cases hx with
  | skip h0=>exact hy _ (λu hu=>by rw [h0] at hu;cases hu)
  | value x h0=>exact hy _ h0
 unfold gz at h
 split at h
 ·rename_i hw
  obtain ⟨x,h1,h2⟩:=h
  refine fin h1 h2 λy hy=>hn ι _ _ (λ_ _=>rfl) (λ_=>rfl) ?_
  rw [hw]
  simp only [ne_eq,um,and_false,aE]
  exact ⟨by rw [mP];exact hI.size,by rw [je];exact hI.defers,hI.tmps.app hI.size hd hy,hI.mem,hI.ext,hI.new,hI.fr,hI.low,hI.fz,hI.gl⟩
 ·rename_i b blk hw
  split at h
  ·rename_i hnw
   obtain ⟨r,h1,hz⟩:=h
   have hz0:r.fz=false:=by
    cases hc:r.fz with
    | false=>rfl
    | true=>have:=hI.fz b r h1 hc;have:=hro hnw _ hw;simp only at this;omega
   obtain ⟨ob,x,h2,h3,h4⟩:=hz hz0
   refine fin h2 h4 λy hy=>hn ι _ _ (λ_ _=>rfl) (λ_=>rfl) ?_
   rw [hw,hnw]
   simp only [bP,xJ,aE]
   refine ⟨by rw [mP];exact hI.size,by rw [je];exact hI.defers,hI.tmps.app hI.size hd hy,hI.mem.write h1 hz0 h3,hI.ext,hI.new,?_,hI.low,hI.fz,hI.gl⟩
   exact hI.fr.write ((hI.new b r h1).imp (λ⟨q',h,hr⟩=>⟨b,q',Bl h (hro hnw _ hw),hr⟩) id) _
  ·rename_i hnw
   obtain ⟨rfl,d,q,ob,x,h2,hq,hqz,h3,h4⟩:=h
   have hext:=oN (r:=some q) hf
   refine fin h2 h4 λy hy=>hn (upd ι b (some q)) _ _ (λc hc=>by simp [upd,hc]) (λhc=>by rw [hnw,hw] at hc;simp at hc) ?_
   rw [hw,hnw]
   simp only [ne_eq,reduceCtorEq,Em,and_self,aQ]
   refine ⟨by rw [mP];exact hI.size,by rw [je];exact hI.defers,(hI.tmps.mono hext).app hI.size hd hy,(hI.mem.draws d).alloc hf (by simp only [St.app];omega) (by simp only [St.app];omega) hq h3,λc q hc=>(hI.ext c q hc).imp (hext _ _) id,λc q hc=>?_,(hI.fr.draws d).alloc ob,hI.low,λc p hc hp=>by
    unfold upd at hc
    split at hc
    ·simp only [aq] at hc;subst hc;rw [hqz] at hp;cases hp
    ·exact hI.fz c p hc hp,hI.gl⟩
   unfold upd at hc
   split at hc
   ·simp only [aq] at hc;subst hc;exact .inr (by rw [hq];exact hI.fr.size)
   ·exact hI.new c q hc
theorem Inv.phantom' {n:Nat} {ι0 ι:Inj} {w0:Base} {s:St} {a:Act} {w:World} (hI:Inv n ι0 w0 ι s a w) {g:Nat} (hf:ι g=none) {nb:Nat} (hnb:s.nb<=nb) (hg:g<nb) (tr:List Lf):
  Inv n ι0 w0 (upd ι g none) { T:=s.T,H:=(g,.rows tr [])::s.H,nb:=nb,lo:=s.lo,ro:=s.ro,rb:=s.rb } a w:=by
 have hext:=oN (r:=none) hf
 have hold:∀b,b≠g->upd ι g none b=ι b:=λb hb=>by simp [upd,hb]
 have hreal:∀b q,upd ι g none b=some (some q)->ι b=some (some q):=by
  intro b q h
  by_cases hb:b=g
  ·subst hb;rw [dk] at h;cases h
  ·rwa [hold b hb] at h
 refine ⟨hI.size,hI.defers,hI.tmps.mono hext,⟨λb b' q q' e1 e2=>hI.mem.inj b b' q q' (hreal _ _ e1) (hreal _ _ e2),λb q e=>?_,λb q e=>hI.mem.dom b q (hreal _ _ e),λb y hl hd=>?_⟩,
  λb q e=>(hI.ext b q e).imp (hext _ _) id,λb q e=>hI.new b q (hreal _ _ e),hI.fr,hI.low,λb q e=>hI.fz b q (hreal _ _ e),hI.gl⟩
 ·by_cases hb:b=g
  ·subst hb;exact hg
  ·rw [hold b hb] at e
   exact qj (hI.mem.low b q e) hnb
 ·rw [aU] at hl
  split at hl
  ·rename_i e;subst e
   simp only [aq] at hl;subst hl
   exact .inr ⟨dk _ _ _,tr,rfl⟩
  ·rename_i hne
   exact (hI.mem.blk b y hl hd).map (hold b (λe=>hne e.symm)) (λ_ _=>rfl) (λ_ _ h=>BR.mono hext h) (λ_ h=>h)
theorem Inv.setnb {n:Nat} {ι0 ι:Inj} {w0:Base} {s:St} {a:Act} {w:World} (hI:Inv n ι0 w0 ι s a w) {nb:Nat} (h:s.nb<=nb):
  Inv n ι0 w0 ι { T:=s.T,H:=s.H,nb:=nb,lo:=s.lo,ro:=s.ro,rb:=s.rb } a w:=
 ⟨hI.size,hI.defers,hI.tmps,⟨hI.mem.inj,λb q e=>qj (hI.mem.low b q e) h,hI.mem.dom,hI.mem.blk⟩,hI.ext,hI.new,hI.fr,hI.low,hI.fz,hI.gl⟩
theorem OH {ι:Inj} {g:Nat} (hg:ι g=some none) {x:Value} (h:VR ι .sn x):VR ι (.ws g) x:=by
 simp only [VR] at h ⊢
 exact .inr ⟨hg,none,h⟩
theorem zP:∀(ns:List (Nat×List Lf)) (g:Nat) (l:List V) (acc:List (Nat×Blk)) (l':List V) (H:List (Nat×Blk)),nilL g ns l acc=(l',H)->∃H1,H=H1++acc/\
  ∀{n:Nat} {ι0 ι:Inj} {w0:Base} {s:St} {a:Act} {w:World},Inv n ι0 w0 ι s a w->(∀b,g<=b->b<g+H1.length->ι b=none)->∀nb,s.nb<=nb->(H1=[]\/g+H1.length<=nb)->
   ∃ι',(∀b,(b<g\/g+H1.length<=b)->ι' b=ι b)/\(∀b q,ι b=some q->ι' b=some q)/\(∀xs,VRs ι' l xs->VRs ι' l' xs)/\
    Inv n ι0 w0 ι' { T:=s.T,H:=H1++s.H,nb:=nb,lo:=s.lo,ro:=s.ro,rb:=s.rb } a w
 | [],g,l,acc,l',H,h=>by
  simp only [nilL,bO] at h
  obtain ⟨rfl,rfl⟩:=h
  exact ⟨[],rfl,λ{n ι0 ι w0 s a w} hI hfr nb h1 h2=>⟨ι,λ_ _=>rfl,λ_ _ h=>h,λ_ h=>h,hI.setnb h1⟩⟩
 | (i,tr)::r,g,l,acc,l',H,h=>by
  simp only [nilL] at h
  split at h
  ·rename_i hi
   obtain ⟨H2,rfl,hk⟩:=zP r (g+1) _ _ _ _ h
   refine ⟨H2++[(g,.rows tr [])],by simp,λ{n ι0 ι w0 s a w} hI hfr nb h1 h2=>?_⟩
   have hlen:(H2++[((g,.rows tr []):Nat×Blk)]).length=H2.length+1:=by simp
   rw [hlen] at hfr h2 ⊢
   have h2:g+(H2.length+1)<=nb:=h2.resolve_left (by simp)
   have hg:=hfr g (aV _) (by omega)
   have hext:=oN (r:=none) hg
   obtain ⟨ι',k1,k2,k3,k4⟩:=hk (hI.phantom' hg h1 (by omega) tr) (λb e1 e2=>by
    have:upd ι g none b=ι b:=by simp [upd,show b≠g by omega]
    rw [this];exact hfr b (by omega) (by omega)) nb (aV _) (.inr (by omega))
   refine ⟨ι',λb hb=>?_,λb q hb=>k2 b q (hext b q hb),λxs hx=>k3 xs ?_,by simpa using k4⟩
   ·rw [k1 b (by omega)];simp [upd,show b≠g by omega]
   ·obtain ⟨x,hx1,hx2⟩:=hx.get hi
    have:=hx.set i (OH (g:=g) (k2 _ _ (dk _ _ _)) hx2)
    rwa [show xs.set i x=xs from by
     apply Cm
     intro j
     rw [List.getElem?_set]
     split
     ·rename_i e;subst e
      split
      ·exact hx1.symm
      ·rename_i hlt;rw [gU (by omega)] at hx1;cases hx1
     ·rfl] at this
  ·exact zP r g l acc l' H h
theorem QW {α:Type} (l m:List (Nat×α)) (n:Nat):look (l++m) n=(look l n).or (look m n):=by
 induction l with
 | nil=>rfl
 | cons x l ih=>
  obtain ⟨k,v⟩:=x
  rw [fP,aU,aU,ih]
  split<;>rfl
theorem Inv.reH {n:Nat} {ι0 ι:Inj} {w0:Base} {T:List (Nat×Option V)} {A B:List (Nat×Blk)} {b nb lo ro rb:Nat} {l l':List V} {a:Act} {w:World}
  (hI:Inv n ι0 w0 ι ⟨T,A++(b,.cells l)::B,nb,lo,ro,rb⟩ a w) (h:∀xs,VRs ι l xs->VRs ι l' xs):Inv n ι0 w0 ι ⟨T,A++(b,.cells l')::B,nb,lo,ro,rb⟩ a w:=by
 refine ⟨hI.size,hI.defers,hI.tmps,⟨hI.mem.inj,hI.mem.low,hI.mem.dom,λc y hc hd=>?_⟩,hI.ext,hI.new,hI.fr,hI.low,hI.fz,hI.gl⟩
 have hold:=hI.mem.blk c
 rw [QW,aU] at hc hold
 cases hA:look A c with
 | some z=>rw [hA] at hc hold;exact hold y hc hd
 | none=>
  rw [hA] at hc hold
  simp only [Et] at hc hold
  split at hc
  ·rename_i e
   rw [ae e] at hold
   simp only [aq] at hc;subst hc
   rcases hold _ rfl (by simp) with ⟨q,o,h1,h2,h3⟩ | ⟨_,t,h2⟩
   ·obtain ⟨cs,e',fr,g1,g2,g3⟩:=h3
    exact .inl ⟨q,o,h1,h2,cs,e',fr,g1,h _ g2,g3⟩
   ·cases h2
  ·rename_i e
   rw [ab e] at hold
   exact hold y hc hd
theorem Inv.reT {n:Nat} {ι0 ι:Inj} {w0:Base} {s:St} {wr:List (Nat×Blk)} {d:Option Nat} {nb:Nat} {v v':V} {a:Act} {w:World}
  (hI:Inv n ι0 w0 ι (s.app d (some v) wr nb) a w) (h:∀x,VR ι v x->VR ι v' x):Inv n ι0 w0 ι (s.app d (some v') wr nb) a w:=by
 refine ⟨hI.size,hI.defers,?_,hI.mem,hI.ext,hI.new,hI.fr,hI.low,hI.fz,hI.gl⟩
 have ht:=hI.tmps
 cases d with
 | none=>exact ht
 | some d=>
  intro t u hu
  have hold:=ht t
  simp only [St.app,aU] at hu hold
  split at hu
  ·rename_i e
   rw [ae e] at hold
   simp only [aq] at hu;subst hu
   obtain ⟨x,h1,h2⟩:=hold v rfl
   exact ⟨x,h1,h x h2⟩
  ·rename_i e
   rw [ab e] at hold
   exact hold u hu
theorem O7 {P:Program} {t:TypeId} {g:Nat} {v v':V} {H1:List (Nat×Blk)} (h:nilV P t g v=(v',H1)) {n:Nat} {ι0 ι:Inj} {w0:Base} {s:St} {d:Option Nat} {nb0:Nat} {a:Act} {w:World}
  (hI:Inv n ι0 w0 ι (s.app d (some v) [] nb0) a w) (hfr:∀b,g<=b->b<g+H1.length->ι b=none) {nb:Nat} (h1:nb0<=nb) (h2:H1=[]\/g+H1.length<=nb):
  ∃ι',(∀b,(b<g\/g+H1.length<=b)->ι' b=ι b)/\Inv n ι0 w0 ι' (s.app d (some v') H1 nb) a w:=by
 have same:(v,([]:List (Nat×Blk)))=(v',H1)->∃ι',(∀b,(b<g\/g+H1.length<=b)->ι' b=ι b)/\Inv n ι0 w0 ι' (s.app d (some v') H1 nb) a w:=by
  intro e
  simp only [bO] at e
  obtain ⟨rfl,rfl⟩:=e
  exact ⟨ι,λ_ _=>rfl,hI.setnb h1⟩
 unfold nilV at h
 split at h
 ·split at h
  ·rename_i i tr r hn
   simp only [bO] at h
   obtain ⟨rfl,rfl⟩:=h
   have hg:=hfr g (aV _) (by simp)
   have h2:g+1<=nb:=by simpa using h2
   have:=hI.phantom' hg h1 h2 tr
   exact ⟨upd ι g none,λb hb=>by simp only [List.length_singleton] at hb;simp [upd,show b≠g by omega],Inv.reT (s:=s) (wr:=[(g,.rows tr [])]) (v:=.sn) this λx hx=>OH (dk _ _ _) hx⟩
  ·exact same h
 ·rename_i l
  split at h
  rename_i l' Hx hl
  simp only [bO] at h
  obtain ⟨rfl,rfl⟩:=h
  obtain ⟨H2,e,hk⟩:=zP _ _ _ _ _ _ hl
  rw [pM] at e
  subst e
  obtain ⟨ι',k1,k2,k3,k4⟩:=hk hI hfr nb h1 h2
  refine ⟨ι',k1,Inv.reT (s:=s) (wr:=Hx) (v:=.ag l) k4 λx hx=>?_⟩
  simp only [VR] at hx ⊢
  obtain ⟨cs,q1,q2⟩:=hx
  exact ⟨cs,q1,k3 _ q2⟩
 ·exact same h
theorem QT (nb fr:Nat):∀g,g=0\/fr+g<=nbOf nb fr g
 | 0=>.inl rfl
 | _+1=>.inr (Nat.le_max_right _ _)
theorem vK {P:Program} {fr:Nat} {o:Oper} {e:Eff} {v:Option V} {wr:List (Nat×Blk)} {g:Nat} (h:yL P fr o e=(v,wr,g)) (hg:g=0):e.new=false\/e.wr=none:=by
 unfold yL at h
 split at h
 ·rename_i hw;exact .inr hw
 ·split at h
  ·rename_i hn;exact .inl hn
  ·split at h
   ·split at h
    simp only [bO] at h
    omega
   ·simp only [bO] at h
    omega
theorem Ik {P:Program} {fr nb:Nat} {o:Oper} {e:Eff} {v:Option V} {wr:List (Nat×Blk)} {g:Nat} (h:yL P fr o e=(v,wr,g)):
  (if e.new=true/\e.wr≠none then max nb (fr+1) else nb)<=nbOf nb fr g:=by
 cases g with
 | zero=>
  have:=vK h rfl
  rw [ab (λhc=>by rcases this with h | h;rw [h] at hc;cases hc.1;exact hc.2 h)]
  exact aV _
 | succ g=>
  simp only [nbOf]
  split<;>omega
theorem gz.new_eq {ι:Inj} {f:Nat} {o:Oper} {a:Act} {w:World} {e:Eff} (h:gz P ι f o a w e) {bb:Nat×Blk} (hw:e.wr=some bb) (hn:e.new=true):bb.1=f:=by
 unfold gz at h
 rw [hw] at h
 simp only [hn] at h
 exact h.1
theorem AU {P:Program} {fr:Nat} {o:Oper} {e:Eff} {v:Option V} {wr:List (Nat×Blk)} {g:Nat} (h:yL P fr o e=(v,wr,g)) {n:Nat} {ι0 ι:Inj} {w0:Base} {s:St} {nb0 nb:Nat} {a:Act} {w:World}
  (hI:Inv n ι0 w0 ι (s.app o.dst e.val e.wr.toList nb0) a w) (hfr:∀b,fr<=b->b<fr+g->(b=fr->e.wr=none)->ι b=none) (hb:∀bb,e.wr=some bb->e.new=true->bb.1=fr) (h1:nb0<=nb) (h2:g=0\/fr+g<=nb):
  ∃ι',(∀b,(b<fr\/fr+g<=b)->ι' b=ι b)/\Inv n ι0 w0 ι' (s.app o.dst v wr nb) a w:=by
 have same:(e.val,e.wr.toList)=(v,wr)->∃ι',(∀b,(b<fr\/fr+g<=b)->ι' b=ι b)/\Inv n ι0 w0 ι' (s.app o.dst v wr nb) a w:=by
  intro e
  simp only [bO] at e
  obtain ⟨rfl,rfl⟩:=e
  exact ⟨ι,λ_ _=>rfl,hI.setnb h1⟩
 unfold yL at h
 split at h
 ·rename_i hw
  rw [hw] at hI same
  split at h
  ·rename_i t u ht hu
   split at h
   rename_i v' H hv
   simp only [bO] at h
   obtain ⟨rfl,rfl,rfl⟩:=h
   rw [hu] at hI
   obtain ⟨ι',k1,k2⟩:=O7 hv (d:=o.dst) (s:=s) hI (λb e1 e2=>hfr b e1 e2 λ_=>hw) h1 (h2.imp (λh=>yx h) id)
   exact ⟨ι',k1,k2⟩
  ·simp only [bO] at h
   exact same (by simp [h.1,h.2.1])
 ·rename_i bb hw
  rw [hw] at same
  split at h
  ·simp only [bO] at h
   exact same (by simp [h.1,h.2.1])
  ·rename_i hnw
   split at h
   ·rename_i t l ho hbb
    split at h
    rename_i l' H hl
    simp only [bO] at h
    obtain ⟨rfl,rfl,rfl⟩:=h
    obtain ⟨H2,e',hk⟩:=zP _ _ _ _ _ _ hl
    rw [pM] at e'
    subst e'
    rw [hw] at hI
    have e1:=hb bb hw hnw
    obtain ⟨b,blk⟩:=bb
    simp only at hbb e1
    subst hbb e1
    obtain ⟨ι',k1,k2,k3,k4⟩:=hk hI (λc q1 q2=>hfr c (by omega) (by omega) (λq=>by omega)) nb h1 (h2.elim (λh=>by omega) λh=>.inr (by omega))
    refine ⟨ι',λc hc=>k1 c (by omega),?_⟩
    have:=Inv.reH (A:=H) (B:=s.H) (b:=b) k4 k3
    simpa [St.app] using this
   ·simp only [bO] at h
    exact same (by simp [h.1,h.2.1])
theorem Ol {ι:Inj} {T:List (Nat×Option V)} {a:Act} (ht:TR ι T a.tmps) {g:Operand} {f:Nat} {cap:List V} (h:opd T g=some (.fn f cap)):
  ∃cs:Array Value,a.eval g=fnV f cs/\VRs ι cap cs.toList:=by
 have:=bn ht h
 simpa only [VR] using this
theorem yD {wr:List (Nat×Blk)} {ι:Inj} {b:Nat} {r:Option Rf} (h:uF wr ι b=some r):∃x∈wr,x.1=b:=by
 unfold uF at h
 split at h
 ·rename_i ha
  obtain ⟨x,hx,hb⟩:=tg.1 ha
  exact ⟨x,hx,bE hb⟩
 ·cases h
theorem B5 (wr:List (Nat×Blk)) (ι:Inj):∀b r,uF wr ι b=some r->ι b=some r:=by
 intro b r h
 unfold uF at h
 split at h
 ·exact h
 ·cases h
theorem ME {K f:Nat} {ι:Inj} {o:Oper} {a:Act} {g:Operand} {args:Array Operand} {tys:Array TypeId} {cs:Array Value} {cap l:List V} (ho:o.op=.call ⟨.value g,args,tys⟩)
  (h1:a.eval g=fnW K f cs) (h2:VRs ι cap cs.toList) (h3:VRs ι l (args.toList.map a.eval)) (w:World):
  ∃as:Array Value,VRs ι (fnAW K f l cap) as.toList/\(execOp a.eval o).run P w=(callFunc (fnFW K f) as).run P w:=by
 unfold fnAW fnFW
 unfold fnW at h1
 cases hK:Nat.blt f K<;>rw [hK] at h1<;>simp only at h1 ⊢
 ·refine ⟨cs++args.map a.eval,by simpa using h2.append h3,?_⟩
  simp only [execOp,ho,resolve,h1,Deferred.ofValue,Array.append_empty,aw,aA,ay,invoke]
 ·refine ⟨args.map a.eval++cs,by simpa using h3.append h2,?_⟩
  simp only [execOp,ho,resolve,h1,Deferred.ofValue,Array.empty_append,aw,aA,ay,invoke]
theorem zJ {n fr:Nat} {ι0 ι:Inj} {w0:Base} {s:St} {o:Oper} {a:Act} {w:World} {g:Operand} {args:Array Operand} {tys:Array TypeId} {f:Nat} {cap l:List V} {r:CR}
  (ho:o.op=.call ⟨.value g,args,tys⟩) (hI:Inv n ι0 w0 ι s a w) (hfr:∀b,fr<=b->b<fr+r.grow->ι b=none) (hd:ul n o.dst=true)
  (hg:opd s.T g=some (.fn f cap)) (hl:opds (opd s.T) args.toList=some l) (hro:r.wr.all (λx=>Nat.ble s.ro x.1)=true)
  (hkill:r.kill.all (λb=>Nat.ble s.rb b)=true) (hc:GoOK P (fnF f) (fnA f l cap) s.H fr r)
  {next:Act->World->Prop} {Q:Exit->Act->World->Prop}
  (hn:r.pan=false->∀ι' a' w',(∀b,isIn r.kill b=false->(b<fr\/fr+r.grow<=b)->ι' b=ι b)->Inv n ι0 w0 ι' ((s.kill r.kill).app o.dst (some r.val) r.wr (max s.nb (fr+r.grow))) a' w'->next a' w')
  (hp:r.pan=true->∀ι' x w',VR ι' r.val x->Inv n ι0 w0 ι' ((s.kill r.kill).app none none r.wr (max s.nb (fr+r.grow))) a w'->Q (.panic [{ v:=x,recovered:=false }]) a w'):
  o.wp P a w next Q:=by
 obtain ⟨cs,h1,h2⟩:=Ol hI.tmps hg
 have h3:=wX hI.tmps hl
 obtain ⟨as,has,hinv⟩:=ME (P:=P) ho (show a.eval g=fnW 1000000 f cs from h1) h2 h3 w
 rcases hc with ⟨hE,hc⟩ | ⟨a1,a2,a3,a4,hans⟩
 case inr=>
  obtain ⟨x,hrun0,hx⟩:=hans ι w as has
  have hrun:(execOp a.eval o).run P w=.ok (.value x) w:=by rw [hinv];exact hrun0
  unfold Oper.wp
  rw [hrun]
  refine hn a1 ι _ _ (λ_ _ _=>rfl) ?_
  rw [a2,a3,a4,cD]
  refine ⟨by rw [mP];exact hI.size,by rw [je];exact hI.defers,TR.app (s:=s) hI.tmps hI.size hd (λu hu=>by cases hu;exact hx),?_,hI.ext,hI.new,hI.fr,hI.low,hI.fz,hI.gl⟩
  exact ⟨hI.mem.inj,λb q hq=>qj (hI.mem.low b q hq) (Db _ _),hI.mem.dom,hI.mem.blk⟩
 have hrun:(execOp a.eval o).run P w=.ok (.enter (fnF f) as) w:=by rw [hinv];exact hE _ _
 unfold Oper.wp
 rw [hrun]
 simp only [Oper.upon]
 refine (hc ι s.nb w as hI.mem (hI.glHere λb q hb=>by
  obtain ⟨x,hx,rfl⟩:=yD hb
  exact ⟨B5 r.wr ι x.1 _ hb,aI (dF.1 hro x hx)⟩) (λx hx q hq=>by
  cases hc:q.fz with
  | false=>rfl
  | true=>have:=hI.fz x.1 q hq hc;have:=aI (dF.1 hro x hx);omega) (λb hb1 hb2=>hfr b hb1 (by omega)) has).mono λe w' h=>?_
 obtain ⟨ι',g1,g0,g2,g6,g3,g4,g5⟩:=h
 have hfz:∀b q,ι' b=some (some q)->q.fz=true->b<s.ro:=λb q hb hq=>hI.fz b q (g6 b q hb hq) hq
 have hkro:∀b,isIn r.kill b=true->s.rb<=b:=by
  intro b hb
  obtain ⟨c,hc1,hc2⟩:=tg.1 hb
  rw [bE hc2]
  exact aI (dF.1 hkill c hc1)
 have hext:∀b,isIn r.kill b=false->∀q,ι b=some q->ι' b=some q:=by
  intro b hk q hb
  rw [g1 b hk ?_];exact hb
  rcases aG b fr with h | h
  ·exact .inl h
  ·rcases aG b (fr+r.grow) with h' | h'
   ·have:=hfr b h (by omega)
    rw [this] at hb;cases hb
   ·exact .inr h'
 have hext2:∀b q,ι0 b=some q->ι' b=some q\/s.rb<=b:=by
  intro b q hb
  rcases hI.ext b q hb with h | h
  ·cases hk:isIn r.kill b with
   | true=>exact .inr (hkro b hk)
   | false=>exact .inl (hext b hk q h)
  ·exact .inr h
 have hnew:∀b q,ι' b=some (some q)->(∃q',ι0 b=some (some q')/\q'.r=q.r)\/w0.w.heap.size<=q.r:=by
  intro b q hb
  cases hk:isIn r.kill b with
  | true=>
   rcases g0 b q hk hb with ⟨q',h6,h7⟩ | h6
   ·rw [<-h7];exact hI.new b q' h6
   ·exact .inr (qC hI.fr.size h6)
  | false=>
   by_cases hin:b<fr\/fr+r.grow<=b
   ·rw [g1 b hk hin] at hb;exact hI.new b q hb
   ·have:=g2 b q (by omega) (by omega) hb
    exact .inr (qC hI.fr.size this)
 have hfrm:Fr (roI ι0 s.ro) w0.w w':=hI.fr.trans (λb q hb=>by
  obtain ⟨x,hx,rfl⟩:=yD hb
  have h1:=aI (dF.1 hro x hx)
  exact (hI.new x.1 q (B5 r.wr ι x.1 _ hb)).imp (λ⟨q',h,hr⟩=>⟨q',Bl h h1,hr⟩) id) g4
 have hT:=hI.tmps.kill hext
 rw [St.kill_eq] at hn hp
 cases e with
 | returned x=>
  obtain ⟨p1,p2⟩:=g5
  refine hn p1 ι' _ _ g1 ⟨by rw [mP];exact hI.size,by rw [je];exact hI.defers,TR.app (s:={ T:=uU r.kill s.T,H:=zQ r.kill s.H,nb:=s.nb,lo:=s.lo,ro:=s.ro,rb:=s.rb }) hT hI.size hd (λu hu=>by cases hu;exact p2),g3,hext2,hnew,hfrm,hI.low,hfz,hI.gl⟩
 | panicked chain=>
  obtain ⟨p1,x,rfl,p2⟩:=g5
  exact hp p1 ι' x _ p2 ⟨hI.size,hI.defers,hT,g3,hext2,hnew,hfrm,hI.low,hfz,hI.gl⟩
 | outgrown=>exact g5.elim
theorem FX {α:Type} {E:List Ent} (hE:∀x∈E,gN P x) {n fr:Nat} {ι0 ι:Inj} {w0:Base} {s:St} {o:Oper} {a:Act} {w:World} (hI:Inv n ι0 w0 ι s a w)
  (hfr:∀b,fr<=b->b<fr+8->ι b=none) {k:St->List Nat->List (Nat×Blk)->Nat->Option α} {kp:V->St->Option α} {z:α} (h:B9 P E n fr o s k kp=some z)
  {next:Act->World->Prop} {Q:Exit->Act->World->Prop}
  (hn:∀s' rd wr g ι' a' w',k s' rd wr g=some z->(∀b,(b<fr\/fr+g<=b)->ι' b=ι b)->Inv n ι0 w0 ι' s' a' w'->next a' w')
  (hp:∀v s' ι' x a' w',kp v s'=some z->VR ι' v x->Inv n ι0 w0 ι' s' a' w'->Q (.panic [{ v:=x,recovered:=false }]) a' w'):
  o.wp P a w next Q:=by
 have hf:ι fr=none:=hfr fr (aV _) (by omega)
 unfold B9 at h
 split at h
 ·cases h
 rename_i hd
 have eff:ub P fr o s k=some z->o.wp P a w next Q:=by
  intro h
  unfold ub at h
  obtain ⟨e,he,hok⟩:=LD hI.tmps hI.mem hf h
  split at he
  rename_i v wr g hne
  split at he
  case h_2=>cases he
  rename_i hb
  simp only [az] at hb
  have hg8:=aI hb.2
  have hnewb:∀bb,e.wr=some bb->e.new=true->bb.1=fr:=λbb hw hnw=>gz.new_eq hok hw hnw
  refine EG hI hf hd hok (λhnw bb hw=>by
   have:=hb.1
   unfold roOK at this
   rw [hw] at this
   simp only [hnw] at this
   exact aI this) λι' a' w' g1 g2 hI'=>?_
  obtain ⟨ι2,k1,k2⟩:=AU hne hI' (λb e1 e2 e3=>by
   by_cases hbf:b=fr
   ·subst hbf;rw [g2 (.inr (e3 rfl))];exact hf
   ·rw [g1 b hbf];exact hfr b e1 (by omega)) hnewb (nb:=nbOf s.nb fr g) (Ik hne) (QT s.nb fr g)
  refine hn _ _ _ _ ι2 a' w' he (λb hb'=>?_) k2
  rw [k1 b hb']
  by_cases hbf:b=fr
  ·subst hbf
   refine g2 (vK hne (by omega))
  ·exact g1 b hbf
 split at h
 ·rename_i cl hop
  split at h
  ·rename_i g hcal
   split at h
   ·rename_i f cap hg
    obtain ⟨l,hl,h⟩:=av h
    obtain ⟨r,h2,h3⟩:=vd hE h
    split at h2
    ·cases h2
    rename_i hgr
    simp only [az] at hgr
    have hk0:r.kill=[]:=by simpa using hgr.2.2
    have hg8:=aI hgr.1
    obtain ⟨callee,args,tys⟩:=cl
    simp only at hcal
    subst hcal
    refine zJ hop hI (λb e1 e2=>hfr b e1 (by omega)) hd hg hl hgr.2.1 (by rw [hk0];rfl) (h3 _ λ_ _=>rfl) (λhpan ι' a' w' g1 hI'=>?_) (λhpan ι' x w' g1 hI'=>?_)
    ·rw [hpan] at h2
     rw [hk0] at g1 hI'
     exact hn _ _ _ _ ι' a' w' h2 (λb hb=>g1 b rfl hb) hI'
    ·rw [hpan] at h2
     rw [hk0] at hI'
     exact hp _ _ ι' x a w' h2 g1 hI'
   ·cases h
  ·exact eff h
 ·rename_i x hop
  split at h
  ·rename_i t v hx
   have hv:=bn hI.tmps hx
   have hv':=hv
   simp only [VR] at hv
   obtain ⟨y,h6,_⟩:=hv
   unfold Oper.wp
   have hrun:(execOp a.eval o).run P w=.halt (.panic (.iface t y)) w:=by
    simp only [execOp,hop,h6,Instr.panic,aw,run_goPanic,Result.andThen_halt]
   rw [hrun]
   exact hp _ _ ι _ a w h (h6▸hv') hI
  ·cases h
 ·exact eff h
theorem TR.again {ι:Inj} {T:List (Nat×Option V)} {tm:Array Value} (ht:TR ι T tm) {d:Nat} {v:V} (hl:look T d=some (some v)):TR ι ((d,some v)::T) tm:=by
 intro t u hu
 rw [aU] at hu
 split at hu
 ·rename_i e;subst e
  simp only [aq] at hu;subst hu
  exact ht d v hl
 ·exact ht t u hu
theorem Inv.again {n:Nat} {ι0 ι:Inj} {w0:Base} {s:St} {a:Act} {w:World} (h:Inv n ι0 w0 ι s a w) {d:Nat} {v:V} (hl:look s.T d=some (some v)):
  Inv n ι0 w0 ι { s with T:=(d,some v)::s.T } a w:=
 ⟨h.size,h.defers,h.tmps.again hl,h.mem,h.ext,h.new,h.fr,h.low,h.fz,h.gl⟩
theorem qX {ops:List Oper} {j d:Nat} (h:gtmp ops j=some d) (tm:Array Value):
  yielded ops.toArray tm j=match tm[d]? with | some (.bool b)=>some b | _=>none:=by
 unfold gtmp at h
 split at h
 ·rename_i o ho
  have:(ops.toArray[j]?).bind (·.dst)=some d:=by simp [ho,h]
  unfold yielded
  rw [this]
  rfl
 ·cases h
theorem IE {α:Type} {n:Nat} {ι0 ι:Inj} {w0:Base} {ops:List Oper} {o:Oper} {s:St} {a:Act} {w:World} (hI:Inv n ι0 w0 ι s a w) {k:Bool->St->Option α} {z:α}
  (h:xi ops o s k=some z):∃want s',k want s'=some z/\Inv n ι0 w0 ι s' a w/\Region.wanted o (yielded ops.toArray a.tmps)=want/\(∀t,look s'.T t=look s.T t)/\s'.H=s.H/\s'.nb=s.nb:=by
 unfold xi at h
 split at h
 ·rename_i hg
  exact ⟨true,s,h,hI,by simp [Region.wanted,hg],λ_=>rfl,rfl,rfl⟩
 ·rename_i j want hg
  split at h
  case h_2=>cases h
  rename_i d hd
  have hy:=qX hd a.tmps
  have again:∀x,look s.T d=some (some (.b x))->∀t,look ((d,some (V.b x))::s.T) t=look s.T t:=by
   intro x hx t
   rw [aU]
   split
   ·rename_i e;subst e;exact hx.symm
   ·rfl
  split at h
  ·rename_i x hx
   obtain ⟨y,h1,h2⟩:=hI.tmps d _ hx
   simp only [VR] at h2;subst h2
   rw [h1] at hy
   cases x
   ·exact ⟨!want,_,h,hI.again hx,by cases want<;>simp [Region.wanted,hg,hy],again _ hx,rfl,rfl⟩
   ·exact ⟨want,_,h,hI.again hx,by cases want<;>simp [Region.wanted,hg,hy],again _ hx,rfl,rfl⟩
  ·rename_i hx
   obtain ⟨y,h1,h2⟩:=hI.tmps d _ hx
   simp only [VR] at h2
   obtain ⟨cs,rfl,_⟩:=h2
   rw [h1] at hy
   exact ⟨false,s,h,hI,by simp [Region.wanted,hg,hy],λ_=>rfl,rfl,rfl⟩
  ·cases h
theorem ML (ι:Inj):VR ι (.tp []) undef:=by
 simp only [VR]
 exact ⟨#[],rfl,by simp [VRs]⟩
theorem Inv.skip {n:Nat} {ι0 ι:Inj} {w0:Base} {s:St} {a:Act} {w:World} (h:Inv n ι0 w0 ι s a w) {d:Option Nat} (hd:ul n d=true):
  Inv n ι0 w0 ι (s.app d (some (.tp [])) [] s.nb) (a.put d undef) w:=
 ⟨by rw [mP];exact h.size,by rw [je];exact h.defers,h.tmps.app h.size hd (λu hu=>by cases hu;exact ML ι),h.mem,h.ext,h.new,h.fr,h.low,h.fz,h.gl⟩
theorem Inv.fresh {n:Nat} {ι0 ι:Inj} {w0:Base} {s:St} {a:Act} {w:World} (h:Inv n ι0 w0 ι s a w):∀b,s.nb<=b->ι b=none:=by
 intro b hb
 cases hi:ι b with
 | none=>rfl
 | some r=>have:=h.mem.low b r hi;omega
end Go.Abs
