
/- The interpreter is sound: what it comes to is what the model's code comes to.
   Conditions: none; generic over the program. -/
import Derived.Test.YtaogbalpingjhaaGreatDoorAbsI
set_option linter.unusedSimpArgs false
set_option linter.unusedVariables false
namespace Go.Abs
variable {P:Program}
def gx (P:Program) (f:Nat):Prop:=∀(args:Array Value) (w:World),(callFunc f args).run P w=.ok (.enter f args) w
def RetR (ι:Inj) (r:CR):Ending->Prop
 | .returned x=>r.pan=false/\VR ι r.val x
 | .panicked a=>r.pan=true/\∃x,a=[{ v:=x,recovered:=false }]/\VR ι r.val x
 | .outgrown=>False
def py (wr:List (Nat×Blk)) (ι:Inj):Inj:=λb=>if wr.any (λx=>Nat.beq x.1 b) then ι b else none
def yc (P:Program) (f:Nat) (args:List V) (H:List (Nat×Blk)) (fr:Nat) (r:CR):Prop:=
 ∀(ι:Inj) (nb:Nat) (w:World) (c:Array Value),WR ι H nb w->GL (py r.wr ι) w->(∀x∈r.wr,∀q,ι x.1=some (some q)->q.fz=false)->(∀b,fr<=b->b<fr+r.grow->ι b=none)->VRs ι args c.toList->
  Calls P f c w λe w'=>∃a:Inj,(∀b,isIn r.kill b=false->(b<fr\/fr+r.grow<=b)->a b=ι b)/\
   (∀b q,isIn r.kill b=true->a b=some (some q)->(∃d,ι b=some (some d)/\d.r=q.r)\/w.heap.size<=q.r)/\(∀b q,fr<=b->b<fr+r.grow->a b=some (some q)->w.heap.size<=q.r)/\(∀b q,a b=some (some q)->q.fz=true->ι b=some (some q))/\
   WR a (r.wr++tz r.kill H) (max nb (fr+r.grow)) w'/\Fr (py r.wr ι) w w'/\RetR a r e
mutual
theorem VR.kill {ι J:Inj} {K:List Nat} (h:∀b,isIn K b=false->∀q,ι b=some q->J b=some q):∀(v:V) (x:Value),VR ι v x->VR J (V.kill K v) x
 | .b _,_,A | .i _ _,_,A | .s _,_,A | .pn,_,A | .sn,_,A | .nf,_,A | .ni,_,A | .ai _ _ _,_,A | .unk,_,A=>by simpa only [V.kill,VR] using A
 | .p c o,x,A=>by
  simp only [VR] at A;obtain ⟨q,C,rfl⟩:=A;simp only [V.kill];cases hc:isIn K c with
  | true=>simp [VR,Value.cells,Value.oneCell']
  | false=>simp only [af,VR];exact ⟨q,h c hc _ C,rfl⟩
 | .mp c,x,A=>by
  simp only [VR] at A;obtain ⟨q,C,rfl⟩:=A;simp only [V.kill];cases hc:isIn K c with
  | true=>simp [VR,Value.cells,Value.oneCell']
  | false=>simp only [af,VR];exact ⟨q,h c hc _ C,rfl⟩
 | .pr z c j o,x,A=>by
  simp only [VR] at A;obtain ⟨q,C,rfl⟩:=A;simp only [V.kill];cases hc:isIn K c with
  | true=>simp [VR,Value.cells,Value.oneCell']
  | false=>simp only [af,VR];exact ⟨q,h c hc _ C,rfl⟩
 | .sl c o n m,x,A=>by
  simp only [VR] at A;obtain ⟨q,cp,C,E,M,rfl⟩:=A;simp only [V.kill];cases hc:isIn K c with
  | true=>simp [VR,Value.cells,Value.oneCell']
  | false=>simp only [af,VR];exact ⟨q,cp,h c hc _ C,E,M,rfl⟩
 | .ws c,x,A=>by
  simp only [VR] at A;simp only [V.kill];cases hc:isIn K c with
  | true=>rcases A with ⟨q,C,rfl⟩ | ⟨C,G,rfl⟩<;>simp [VR,Value.cells,Value.oneCell']
  | false=>
   simp only [af,VR];rcases A with ⟨q,C,rfl⟩ | ⟨C,G,rfl⟩
   ·exact .inl ⟨q,h c hc _ C,rfl⟩
   ·exact .inr ⟨h c hc _ C,G,rfl⟩
 | .rs z c j n _,x,A=>by
  simp only [VR] at A;simp only [V.kill];cases hc:isIn K c with
  | true=>rcases A with ⟨q,cp,o,C,E,M,rfl⟩ | ⟨C,E,G,rfl⟩<;>simp [VR,Value.cells,Value.oneCell']
  | false=>
   simp only [af,VR];rcases A with ⟨q,cp,o,C,E,M,rfl⟩ | ⟨C,E,G,rfl⟩
   ·exact .inl ⟨q,cp,o,h c hc _ C,E,M,rfl⟩
   ·exact .inr ⟨h c hc _ C,E,G,rfl⟩
 | .fn f cap,x,A=>by
  simp only [V.kill,VR] at A ⊢;obtain ⟨F,C,E⟩:=A;exact ⟨F,C,VRs.kill h _ _ E⟩
 | .it t v,x,A=>by
  simp only [V.kill,VR] at A ⊢;obtain ⟨y,C,E⟩:=A;exact ⟨y,C,VR.kill h _ _ E⟩
 | .ag l,x,A=>by
  simp only [V.kill,VR] at A ⊢;obtain ⟨F,C,E⟩:=A;exact ⟨F,C,VRs.kill h _ _ E⟩
 | .tp l,x,A=>by
  simp only [V.kill,VR] at A ⊢;obtain ⟨F,C,E⟩:=A;exact ⟨F,C,VRs.kill h _ _ E⟩
theorem VRs.kill {ι A:Inj} {K:List Nat} (h:∀b,isIn K b=false->∀q,ι b=some q->A b=some q):∀(l:List V) (E:List Value),VRs ι l E->VRs A (V.kills K l) E
 | [],_,C=>by simpa [V.kills,VRs] using C
 | v::l,E,C=>by
  simp only [V.kills,VRs] at C ⊢;obtain ⟨y,J,G,M,F⟩:=C;exact ⟨y,J,G,VR.kill h _ _ M,VRs.kill h _ _ F⟩
end
theorem BR.kill {ι C:Inj} {K:List Nat} (h:∀b,isIn K b=false->∀q,ι b=some q->C b=some q) {q:Rf}:∀{blk:Blk} {o:Obj},BR ι q blk o->BR C q (blk.kill K) o
 | .dead,_,_=>trivial
 | .rows t l,o,A=>A
 | .cells l,o,A=>by
  obtain ⟨F,e,fr,G,J,E⟩:=A;exact ⟨F,e,fr,G,VRs.kill h _ _ J,E⟩
 | .ints k n l,o,A=>A
 | .iter s pos,o,A=>A
 | .mp k l,o,A=>A
theorem oG (K:List Nat):∀(T:List (Nat×Option V)) (t:Nat),look (pD K T) t=(look T t).map (Option.map (V.kill K))
 | [],t=>rfl
 | (u,none)::T,t=>by
  simp only [pD,aF,oG K T];split<;>rfl
 | (u,some v)::T,t=>by
  simp only [pD,aF,oG K T];split<;>rfl
theorem oP (K:List Nat):∀(H:List (Nat×Blk)) (b:Nat),look (tz K H) b=(look H b).map (Blk.kill K)
 | [],t=>rfl
 | (u,v)::T,t=>by
  simp only [tz,aF,oP K T];split<;>rfl
theorem TR.kill {ι C:Inj} {K:List Nat} (h:∀b,isIn K b=false->∀q,ι b=some q->C b=some q) {T:List (Nat×Option V)} {F:Array Value} (M:TR ι T F):TR C (pD K T) F:=by
 intro t v A;rw [oG] at A;cases E:look T t with
 | none=>simp [E] at A
 | some o=>
  cases o with
  | none=>simp [E] at A
  | some u=>
   simp only [E,cK,ae] at A;subst A;obtain ⟨x,G,J⟩:=M t u E;exact ⟨x,G,VR.kill h _ _ J⟩
mutual
theorem V.kill_nil:∀v:V,V.kill [] v=v
 | .b _ | .i _ _ | .s _ | .pn | .sn | .nf | .ni | .ai _ _ _ | .unk | .p _ _ | .pr _ _ _ _ | .sl _ _ _ _ | .ws _ | .rs _ _ _ _ _ | .mp _=>rfl
 | .fn f l | .ag l | .tp l=>by simp only [V.kill,V.kills_nil l]
 | .it t v=>by simp only [V.kill,V.kill_nil v]
theorem V.kills_nil:∀l:List V,V.kills [] l=l
 | []=>rfl
 | v::l=>by simp only [V.kills,V.kill_nil v,V.kills_nil l]
end
theorem nK:∀H:List (Nat×Blk),tz [] H=H
 | []=>rfl
 | (b,x)::H=>by
  simp only [tz,nK H];cases x<;>simp only [Blk.kill,V.kills_nil]
theorem rC:∀T:List (Nat×Option V),pD [] T=T
 | []=>rfl
 | (b,none)::T=>by simp only [pD,rC T]
 | (b,some x)::T=>by simp only [pD,rC T,V.kill_nil]
theorem St.kill_eq (K:List Nat) (s:St):s.kill K={ T:=pD K s.T,H:=tz K s.H,nb:=s.nb,lo:=s.lo,ro:=s.ro,rb:=s.rb }:=by
 cases K with
 | nil=>simp only [St.kill,rC,nK]
 | cons b K=>rfl
def Kq (P:Program) (f:Nat) (args:List V) (r:CR):Prop:=
 r.pan=false/\r.wr=[]/\r.grow=0/\r.kill=[]/\∀(ι:Inj) (w:World) (a:Array Value),VRs ι args a.toList->∃x,(callFunc f a).run P w=.ok (.value x) w/\VR ι r.val x
def GoOK (P:Program) (f:Nat) (args:List V) (H:List (Nat×Blk)) (fr:Nat) (r:CR):Prop:=(gx P f/\yc P f args H fr r)\/Kq P f args r
def cD (P:Program) (x:Ent):Prop:=
 ∀(α:Type) (args:List V) (H:List (Nat×Blk)) (fr:Nat) (k:CR->Option α) (z:α),x.e α args H fr k=some z->
  ∃r,k r=some z/\∀a,(∀b∈r.rd,look a b=look H b)->GoOK P x.f args a fr r
theorem pY {α:Type} {f:Nat} {args:List V} {H:List (Nat×Blk)} {fr:Nat} {k:CR->Option α} {z:α}:∀{E:List Ent},(∀x∈E,cD P x)->zG α f args H fr k E=some z->
  ∃r,k r=some z/\∀c,(∀b∈r.rd,look c b=look H b)->GoOK P f args c fr r
 | [],_,h=>by simp [zG] at h
 | x::E,d,h=>by
  simp only [zG] at h;cases a:Nat.beq x.f f with
  | true=>
   rw [a] at h;have g:=aS a;subst g;exact d x (by simp) α args H fr k z h
  | false=>
   rw [a] at h;exact pY (λy e=>d y (iL _ e)) h
def ExR (ι:Inj):Ex->Exit->Prop
 | .normal,e=>e=.normal
 | .exit id,e=>e=.exit id
 | .ret,e=>e=.ret
 | .pan v,e=>∃x,e=.panic [{ v:=x,recovered:=false }]/\VR ι v x
def Post (n:Nat) (ι0:Inj) (w0:Base) (b:Ex->St->Prop):Exit->Act->World->Prop:=
 λe a w=>∃ex s ι,ExR ι ex e/\Inv n ι0 w0 ι s a w/\b ex s
def SemC (P:Program) (n:Nat) (c:Code) (s:St) (b:Ex->St->Prop):Prop:=
 ∀(ι0:Inj) (w0:Base) (ι:Inj) (a:Act) (w:World),Inv n ι0 w0 ι s a w->c.wp P (Post n ι0 w0 b) a w
def fF (P:Program) (n:Nat) (L:List Sub):AC->Prop
 | .seq a b | .cond _ a b=>fF P n L a/\fF P n L b
 | .block _ a | .scope a | .loop a=>fF P n L a
 | .sub m c=>∀(α:Type) (s:St) (k:Ex->St->Option α) (z:α),zT α m s k L=some z->SemC P n c.code s λex d=>k ex d=some z
 | _=>True
theorem Fr.trans {ι0 J:Inj} {w0 w w':World} (h:Fr ι0 w0 w) (M:∀b q,J b=some (some q)->(∃F,ι0 b=some (some F)/\F.r=q.r)\/w0.heap.size<=q.r) (A:Fr J w w'):Fr ι0 w0 w':=by
 refine ⟨A.os.trans h.os,A.tape.trans h.tape,A.output.trans h.output,mT h.size A.size,λk C E=>?_⟩;rw [A.blk k (jQ C h.size) ?_,h.blk k C E];intro b q K;rcases M b q K with ⟨F,G,O⟩ | G
 ·rw [<-O];exact E b F G
 ·omega
theorem iZ (a:Act) (d:Option Nat) (v:Value):(a.put d v).tmps.size=a.tmps.size:=by
 cases d<;>simp [Act.put]
theorem fc (a:Act) (d:Option Nat) (v:Value):(a.put d v).defers=a.defers:=by
 cases d<;>rfl
theorem TR.app {ι:Inj} {s:St} {a:Act} {n:Nat} {d:Option Nat} {v:Option V} {x:Value} {wr:List (Nat×Blk)} {nb:Nat} (A:TR ι s.T a.tmps) (C:a.tmps.size=n) (F:o8 n d=true)
  (E:∀u,v=some u->VR ι u x):TR ι (s.app d v wr nb).T (a.put d x).tmps:=by
 cases d with
 | none=>exact A
 | some d=>exact A.put (by rw [C];exact ax F) E
theorem Inv.drawn {n:Nat} {ι0 ι:Inj} {w0:Base} {s:St} {a:Act} {w:World} (h:Inv n ι0 w0 ι s a w) (m:Nat):Inv n ι0 w0 ι s a { w with drawn:=m }:=
 ⟨h.size,h.defers,h.tmps,h.mem.draws m,h.ext,h.new,h.fr.draws m,h.low,h.fz,h.gl⟩
theorem yw {n fr:Nat} {ι0 ι:Inj} {w0:Base} {s:St} {o:Oper} {a:Act} {w:World} {e:Eff} (f:Inv n ι0 w0 ι s a w) (K:ι fr=none) (C:o8 n o.dst=true)
  (h:dt P ι fr o a w e) (v:e.new=false->∀J,e.wr=some J->s.ro<=J.1) {next:Act->World->Prop} {Q:Exit->Act->World->Prop}
  (E:∀g N w',(∀b,b≠fr->g b=ι b)->(e.new=false\/e.wr=none->g fr=ι fr)->
   Inv n ι0 w0 g (s.app o.dst e.val e.wr.toList (if e.new=true/\e.wr≠none then max s.nb (fr+1) else s.nb)) N w'->next N w'):
  o.wp P a w next Q:=by
 have m:∀{x:Next} {w':World} {g:Inj},(execOp a.eval o).run P w=.ok x w'->NextR g e.val x->(∀y,(∀u,e.val=some u->VR g u y)->next (a.put o.dst y) w')->o.wp P a w next Q:=by
  intro x w' g B R j;unfold Oper.wp;rw [B];cases R with
  | skip I=>exact j _ (λu L=>by rw [I] at L;cases L)
  | value x I=>exact j _ I
 unfold dt at h;split at h
 ·rename_i l;obtain ⟨x,A,z⟩:=h;refine m A z λy j=>E ι _ _ (λ_ _=>rfl) (λ_=>rfl) ?_;rw [l];simp only [ne_eq,oK,and_false,aE];exact ⟨by rw [iZ];exact f.size,by rw [fc];exact f.defers,f.tmps.app f.size C j,f.mem,f.ext,f.new,f.fr,f.low,f.fz,f.gl⟩
 ·rename_i b blk l;split at h
  ·rename_i i;obtain ⟨r,A,S⟩:=h;have t:r.fz=false:=by
    cases hc:r.fz with
    | false=>rfl
    | true=>have:=f.fz b r A hc;have:=v i _ l;simp only at this;omega
   obtain ⟨ob,x,z,F,G⟩:=S t;refine m z G λy j=>E ι _ _ (λ_ _=>rfl) (λ_=>rfl) ?_;rw [l,i];simp only [bT,false_and,aE];refine ⟨by rw [iZ];exact f.size,by rw [fc];exact f.defers,f.tmps.app f.size C j,f.mem.write A t F,f.ext,f.new,?_,f.low,f.fz,f.gl⟩;exact f.fr.write ((f.new b r A).imp (λ⟨O,h,B⟩=>⟨b,O,vF h (v i _ l),B⟩) id) _
  ·rename_i i;obtain ⟨rfl,d,q,ob,x,z,M,D,F,G⟩:=h;have k:=kW (r:=some q) K;refine m z G λy j=>E (upd ι b (some q)) _ _ (λc hc=>by simp [upd,hc]) (λhc=>by rw [i,l] at hc;simp at hc) ?_;rw [l,i];simp only [ne_eq,reduceCtorEq,wM,and_self,aY]
   refine ⟨by rw [iZ];exact f.size,by rw [fc];exact f.defers,(f.tmps.mono k).app f.size C j,(f.mem.draws d).alloc K (by simp only [St.app];omega) (by simp only [St.app];omega) M F,λc q hc=>(f.ext c q hc).imp (k _ _) id,λc q hc=>?_,(f.fr.draws d).alloc ob,f.low,λc p hc H=>by
    unfold upd at hc;split at hc
    ·simp only [ae] at hc;subst hc;rw [D] at H;cases H
    ·exact f.fz c p hc H,f.gl⟩
   unfold upd at hc;split at hc
   ·simp only [ae] at hc;subst hc;exact .inr (by rw [M];exact f.fr.size)
   ·exact f.new c q hc
theorem Inv.phantom' {n:Nat} {ι0 ι:Inj} {w0:Base} {s:St} {a:Act} {w:World} (C:Inv n ι0 w0 ι s a w) {g:Nat} (U:ι g=none) {nb:Nat} (M:s.nb<=nb) (Q:g<nb) (tr:List Lf):
  Inv n ι0 w0 (upd ι g none) { T:=s.T,H:=(g,.rows tr [])::s.H,nb:=nb,lo:=s.lo,ro:=s.ro,rb:=s.rb } a w:=by
 have F:=kW (r:=none) U;have E:∀b,b≠g->upd ι g none b=ι b:=λb G=>by simp [upd,G]
 have A:∀b q,upd ι g none b=some (some q)->ι b=some (some q):=by
  intro b q h;by_cases G:b=g
  ·subst G;rw [bK] at h;cases h
  ·rwa [E b G] at h
 refine ⟨C.size,C.defers,C.tmps.mono F,⟨λb X q O Y W=>C.mem.inj b X q O (A _ _ Y) (A _ _ W),λb q e=>?_,λb q e=>C.mem.dom b q (A _ _ e),λb y J Z=>?_⟩,
  λb q e=>(C.ext b q e).imp (F _ _) id,λb q e=>C.new b q (A _ _ e),C.fr,C.low,λb q e=>C.fz b q (A _ _ e),C.gl⟩
 ·by_cases G:b=g
  ·subst G;exact Q
  ·rw [E b G] at e;exact jQ (C.mem.low b q e) M
 ·rw [aF] at J;split at J
  ·rename_i e;subst e;simp only [ae] at J;subst J;exact .inr ⟨bK _ _ _,tr,rfl⟩
  ·rename_i K;exact (C.mem.blk b y J Z).map (E b (λe=>K e.symm)) (λ_ _=>rfl) (λ_ _ h=>BR.mono F h) (λ_ h=>h)
theorem Inv.setnb {n:Nat} {ι0 ι:Inj} {w0:Base} {s:St} {a:Act} {w:World} (A:Inv n ι0 w0 ι s a w) {nb:Nat} (h:s.nb<=nb):
  Inv n ι0 w0 ι { T:=s.T,H:=s.H,nb:=nb,lo:=s.lo,ro:=s.ro,rb:=s.rb } a w:=
 ⟨A.size,A.defers,A.tmps,⟨A.mem.inj,λb q e=>jQ (A.mem.low b q e) h,A.mem.dom,A.mem.blk⟩,A.ext,A.new,A.fr,A.low,A.fz,A.gl⟩
theorem GE {ι:Inj} {g:Nat} (a:ι g=some none) {x:Value} (h:VR ι .sn x):VR ι (.ws g) x:=by
 simp only [VR] at h ⊢;exact .inr ⟨a,none,h⟩
theorem uj:∀(ns:List (Nat×List Lf)) (g:Nat) (l:List V) (d:List (Nat×Blk)) (p:List V) (H:List (Nat×Blk)),nilL g ns l d=(p,H)->∃m,H=m++d/\
  ∀{n:Nat} {ι0 ι:Inj} {w0:Base} {s:St} {a:Act} {w:World},Inv n ι0 w0 ι s a w->(∀b,g<=b->b<g+m.length->ι b=none)->∀nb,s.nb<=nb->(m=[]\/g+m.length<=nb)->
   ∃c,(∀b,(b<g\/g+m.length<=b)->c b=ι b)/\(∀b q,ι b=some q->c b=some q)/\(∀o,VRs c l o->VRs c p o)/\
    Inv n ι0 w0 c { T:=s.T,H:=m++s.H,nb:=nb,lo:=s.lo,ro:=s.ro,rb:=s.rb } a w
 | [],g,l,d,p,H,h=>by
  simp only [nilL,bX] at h;obtain ⟨rfl,rfl⟩:=h;exact ⟨[],rfl,λ{n ι0 ι w0 s a w} B f nb z y=>⟨ι,λ_ _=>rfl,λ_ _ h=>h,λ_ h=>h,B.setnb z⟩⟩
 | (i,tr)::r,g,l,d,p,H,h=>by
  simp only [nilL] at h;split at h
  ·rename_i hi;obtain ⟨v,rfl,I⟩:=uj r (g+1) _ _ _ _ h;refine ⟨v++[(g,.rows tr [])],by simp,λ{n ι0 ι w0 s a w} B f nb z y=>?_⟩;have u:(v++[((g,.rows tr []):Nat×Blk)]).length=v.length+1:=by simp
   rw [u] at f y ⊢;have y:g+(v.length+1)<=nb:=y.resolve_left (by simp);have D:=f g (aL _) (by omega);have t:=kW (r:=none) D
   obtain ⟨c,k1,k2,F,G⟩:=I (B.phantom' D z (by omega) tr) (λb L K=>by
    have:upd ι g none b=ι b:=by simp [upd,show b≠g by omega]
    rw [this];exact f b (by omega) (by omega)) nb (aL _) (.inr (by omega))
   refine ⟨c,λb C=>?_,λb q C=>k2 b q (t b q C),λo E=>F o ?_,by simpa using G⟩
   ·rw [k1 b (by omega)];simp [upd,show b≠g by omega]
   ·obtain ⟨x,k,A⟩:=E.get hi;have:=E.set i (GE (g:=g) (k2 _ _ (bK _ _ _)) A);rwa [show o.set i x=o from by
     apply vu;intro j;rw [List.getElem?_set];split
     ·rename_i e;subst e;split
      ·exact k.symm
      ·rename_i J;rw [dx (by omega)] at k;cases k
     ·rfl] at this
  ·exact uj r g l d p H h
theorem He {α:Type} (l m:List (Nat×α)) (n:Nat):look (l++m) n=(look l n).or (look m n):=by
 induction l with
 | nil=>rfl
 | cons x l ih=>
  obtain ⟨k,v⟩:=x;rw [jr,aF,aF,ih];split<;>rfl
theorem Inv.reH {n:Nat} {ι0 ι:Inj} {w0:Base} {T:List (Nat×Option V)} {A B:List (Nat×Blk)} {b nb lo ro rb:Nat} {l G:List V} {a:Act} {w:World}
  (E:Inv n ι0 w0 ι ⟨T,A++(b,.cells l)::B,nb,lo,ro,rb⟩ a w) (h:∀J,VRs ι l J->VRs ι G J):Inv n ι0 w0 ι ⟨T,A++(b,.cells G)::B,nb,lo,ro,rb⟩ a w:=by
 refine ⟨E.size,E.defers,E.tmps,⟨E.mem.inj,E.mem.low,E.mem.dom,λc y hc M=>?_⟩,E.ext,E.new,E.fr,E.low,E.fz,E.gl⟩;have C:=E.mem.blk c;rw [He,aF] at hc C;cases K:look A c with
 | some z=>rw [K] at hc C;exact C y hc M
 | none=>
  rw [K] at hc C;simp only [wB] at hc C;split at hc
  ·rename_i e;rw [ad e] at C;simp only [ae] at hc;subst hc;rcases C _ rfl (by simp) with ⟨q,o,Y,F,O⟩ | ⟨_,t,F⟩
   ·obtain ⟨U,W,fr,Q,Z,X⟩:=O;exact .inl ⟨q,o,Y,F,U,W,fr,Q,h _ Z,X⟩
   ·cases F
  ·rename_i e;rw [ab e] at C;exact C y hc M
theorem Inv.reT {n:Nat} {ι0 ι:Inj} {w0:Base} {s:St} {wr:List (Nat×Blk)} {d:Option Nat} {nb:Nat} {v F:V} {a:Act} {w:World}
  (C:Inv n ι0 w0 ι (s.app d (some v) wr nb) a w) (h:∀x,VR ι v x->VR ι F x):Inv n ι0 w0 ι (s.app d (some F) wr nb) a w:=by
 refine ⟨C.size,C.defers,?_,C.mem,C.ext,C.new,C.fr,C.low,C.fz,C.gl⟩;have G:=C.tmps;cases d with
 | none=>exact G
 | some d=>
  intro t u E;have A:=G t;simp only [St.app,aF] at E A;split at E
  ·rename_i e;rw [ad e] at A;simp only [ae] at E;subst E;obtain ⟨x,J,K⟩:=A v rfl;exact ⟨x,J,h x K⟩
  ·rename_i e;rw [ab e] at A;exact A u E
theorem Io {P:Program} {t:TypeId} {g:Nat} {v m:V} {f:List (Nat×Blk)} (h:nilV P t g v=(m,f)) {n:Nat} {ι0 ι:Inj} {w0:Base} {s:St} {d:Option Nat} {nb0:Nat} {a:Act} {w:World}
  (u:Inv n ι0 w0 ι (s.app d (some v) [] nb0) a w) (k:∀b,g<=b->b<g+f.length->ι b=none) {nb:Nat} (q:nb0<=nb) (p:f=[]\/g+f.length<=nb):
  ∃c,(∀b,(b<g\/g+f.length<=b)->c b=ι b)/\Inv n ι0 w0 c (s.app d (some m) f nb) a w:=by
 have j:(v,([]:List (Nat×Blk)))=(m,f)->∃c,(∀b,(b<g\/g+f.length<=b)->c b=ι b)/\Inv n ι0 w0 c (s.app d (some m) f nb) a w:=by
  intro e;simp only [bX] at e;obtain ⟨rfl,rfl⟩:=e;exact ⟨ι,λ_ _=>rfl,u.setnb q⟩
 unfold nilV at h;split at h
 ·split at h
  ·rename_i i tr r K;simp only [bX] at h;obtain ⟨rfl,rfl⟩:=h;have B:=k g (aL _) (by simp);have p:g+1<=nb:=by simpa using p
   have:=u.phantom' B q p tr;exact ⟨upd ι g none,λb z=>by simp only [List.length_singleton] at z;simp [upd,show b≠g by omega],Inv.reT (s:=s) (wr:=[(g,.rows tr [])]) (v:=.sn) this λx o=>GE (bK _ _ _) o⟩
  ·exact j h
 ·rename_i l;split at h;rename_i I G E;simp only [bX] at h;obtain ⟨rfl,rfl⟩:=h;obtain ⟨J,e,D⟩:=uj _ _ _ _ _ _ E;rw [xZ] at e;subst e;obtain ⟨c,k1,k2,A,C⟩:=D u k nb q p;refine ⟨c,k1,Inv.reT (s:=s) (wr:=G) (v:=.ag l) C λx o=>?_⟩;simp only [VR] at o ⊢;obtain ⟨y,H,F⟩:=o;exact ⟨y,H,A _ F⟩
 ·exact j h
theorem Hw (nb fr:Nat):∀g,g=0\/fr+g<=nbOf nb fr g
 | 0=>.inl rfl
 | _+1=>.inr (Nat.le_max_right _ _)
theorem rO {P:Program} {fr:Nat} {o:Oper} {e:Eff} {v:Option V} {wr:List (Nat×Blk)} {g:Nat} (h:sD P fr o e=(v,wr,g)) (c:g=0):e.new=false\/e.wr=none:=by
 unfold sD at h;split at h
 ·rename_i a;exact .inr a
 ·split at h
  ·rename_i b;exact .inl b
  ·split at h
   ·split at h;simp only [bX] at h;omega
   ·simp only [bX] at h;omega
theorem Av {P:Program} {fr nb:Nat} {o:Oper} {e:Eff} {v:Option V} {wr:List (Nat×Blk)} {g:Nat} (h:sD P fr o e=(v,wr,g)):
  (if e.new=true/\e.wr≠none then max nb (fr+1) else nb)<=nbOf nb fr g:=by
 cases g with
 | zero=>
  have:=rO h rfl;rw [ab (λhc=>by rcases this with h | h;rw [h] at hc;cases hc.1;exact hc.2 h)];exact aL _
 | succ g=>
  simp only [nbOf];split<;>omega
theorem dt.new_eq {ι:Inj} {f:Nat} {o:Oper} {a:Act} {w:World} {e:Eff} (h:dt P ι f o a w e) {A:Nat×Blk} (C:e.wr=some A) (E:e.new=true):A.1=f:=by
 unfold dt at h;rw [C] at h;simp only [E] at h;exact h.1
theorem uN {P:Program} {fr:Nat} {o:Oper} {e:Eff} {v:Option V} {wr:List (Nat×Blk)} {g:Nat} (h:sD P fr o e=(v,wr,g)) {n:Nat} {ι0 ι:Inj} {w0:Base} {s:St} {nb0 nb:Nat} {a:Act} {w:World}
  (k:Inv n ι0 w0 ι (s.app o.dst e.val e.wr.toList nb0) a w) (m:∀b,fr<=b->b<fr+g->(b=fr->e.wr=none)->ι b=none) (E:∀p,e.wr=some p->e.new=true->p.1=fr) (z:nb0<=nb) (D:g=0\/fr+g<=nb):
  ∃f,(∀b,(b<fr\/fr+g<=b)->f b=ι b)/\Inv n ι0 w0 f (s.app o.dst v wr nb) a w:=by
 have i:(e.val,e.wr.toList)=(v,wr)->∃f,(∀b,(b<fr\/fr+g<=b)->f b=ι b)/\Inv n ι0 w0 f (s.app o.dst v wr nb) a w:=by
  intro e;simp only [bX] at e;obtain ⟨rfl,rfl⟩:=e;exact ⟨ι,λ_ _=>rfl,k.setnb z⟩
 unfold sD at h;split at h
 ·rename_i j;rw [j] at k i;split at h
  ·rename_i t u U K;split at h;rename_i Q H L;simp only [bX] at h;obtain ⟨rfl,rfl,rfl⟩:=h;rw [K] at k;obtain ⟨f,k1,k2⟩:=Io L (d:=o.dst) (s:=s) k (λb x J=>m b x J λ_=>j) z (D.imp (λh=>sH h) id);exact ⟨f,k1,k2⟩
  ·simp only [bX] at h;exact i (by simp [h.1,h.2.1])
 ·rename_i p j;rw [j] at i;split at h
  ·simp only [bX] at h;exact i (by simp [h.1,h.2.1])
  ·rename_i y;split at h
   ·rename_i t l S r;split at h;rename_i N H M;simp only [bX] at h;obtain ⟨rfl,rfl,rfl⟩:=h;obtain ⟨O,C,I⟩:=uj _ _ _ _ _ _ M;rw [xZ] at C;subst C;rw [j] at k;have x:=E p j y;obtain ⟨b,blk⟩:=p;simp only at r x;subst r x;obtain ⟨f,k1,k2,F,G⟩:=I k (λc R T=>m c (by omega) (by omega) (λq=>by omega)) nb z (D.elim (λh=>by omega) λh=>.inr (by omega));refine ⟨f,λc hc=>k1 c (by omega),?_⟩;have:=Inv.reH (A:=H) (B:=s.H) (b:=b) G F;simpa [St.app] using this
   ·simp only [bX] at h;exact i (by simp [h.1,h.2.1])
theorem GA {ι:Inj} {T:List (Nat×Option V)} {a:Act} (c:TR ι T a.tmps) {g:Operand} {f:Nat} {cap:List V} (h:opd T g=some (.fn f cap)):
  ∃b:Array Value,a.eval g=fnV f b/\VRs ι cap b.toList:=by
 have:=aP c h;simpa only [VR] using this
theorem sX {wr:List (Nat×Blk)} {ι:Inj} {b:Nat} {r:Option Rf} (h:py wr ι b=some r):∃x∈wr,x.1=b:=by
 unfold py at h;split at h
 ·rename_i a;obtain ⟨x,d,c⟩:=mC.1 a;exact ⟨x,d,aS c⟩
 ·cases h
theorem vC (wr:List (Nat×Blk)) (ι:Inj):∀b r,py wr ι b=some r->ι b=some r:=by
 intro b r h;unfold py at h;split at h
 ·exact h
 ·cases h
theorem Eg {K f:Nat} {ι:Inj} {o:Oper} {a:Act} {g:Operand} {args:Array Operand} {d:Array TypeId} {c:Array Value} {cap l:List V} (i:o.op=.call ⟨.value g,args,d⟩)
  (b:a.eval g=fnW K f c) (h:VRs ι cap c.toList) (e:VRs ι l (args.toList.map a.eval)) (w:World):
  ∃as:Array Value,VRs ι (fnAW K f l cap) as.toList/\(execOp a.eval o).run P w=(callFunc (fnFW K f) as).run P w:=by
 unfold fnAW fnFW;unfold fnW at b;cases j:Nat.blt f K<;>rw [j] at b<;>simp only at b ⊢
 ·refine ⟨c++args.map a.eval,by simpa using h.append e,?_⟩;simp only [execOp,i,resolve,b,Deferred.ofValue,Array.append_empty,ak,au,aq,invoke]
 ·refine ⟨args.map a.eval++c,by simpa using e.append h,?_⟩;simp only [execOp,i,resolve,b,Deferred.ofValue,Array.empty_append,ak,au,aq,invoke]
theorem uv {n fr:Nat} {ι0 ι:Inj} {w0:Base} {s:St} {o:Oper} {a:Act} {w:World} {g:Operand} {args:Array Operand} {Z:Array TypeId} {f:Nat} {cap l:List V} {r:CR}
  (ho:o.op=.call ⟨.value g,args,Z⟩) (d:Inv n ι0 w0 ι s a w) (I:∀b,fr<=b->b<fr+r.grow->ι b=none) (hd:o8 n o.dst=true)
  (hg:opd s.T g=some (.fn f cap)) (hl:opds (opd s.T) args.toList=some l) (D:r.wr.all (λx=>Nat.ble s.ro x.1)=true)
  (E:r.kill.all (λb=>Nat.ble s.rb b)=true) (hc:GoOK P (fnF f) (fnA f l cap) s.H fr r)
  {next:Act->World->Prop} {Q:Exit->Act->World->Prop}
  (U:r.pan=false->∀i a' w',(∀b,isIn r.kill b=false->(b<fr\/fr+r.grow<=b)->i b=ι b)->Inv n ι0 w0 i ((s.kill r.kill).app o.dst (some r.val) r.wr (max s.nb (fr+r.grow))) a' w'->next a' w')
  (hp:r.pan=true->∀i x w',VR i r.val x->Inv n ι0 w0 i ((s.kill r.kill).app none none r.wr (max s.nb (fr+r.grow))) a w'->Q (.panic [{ v:=x,recovered:=false }]) a w'):
  o.wp P a w next Q:=by
 obtain ⟨cs,h1,h2⟩:=GA d.tmps hg;have h3:=qU d.tmps hl;obtain ⟨as,L,z⟩:=Eg (P:=P) ho (show a.eval g=fnW 1000000 f cs from h1) h2 h3 w;rcases hc with ⟨hE,hc⟩ | ⟨a1,a2,a3,a4,J⟩
 case inr=>
  obtain ⟨x,A,C⟩:=J ι w as L;have m:(execOp a.eval o).run P w=.ok (.value x) w:=by rw [z];exact A
  unfold Oper.wp;rw [m];refine U a1 ι _ _ (λ_ _ _=>rfl) ?_;rw [a2,a3,a4,dG];refine ⟨by rw [iZ];exact d.size,by rw [fc];exact d.defers,TR.app (s:=s) d.tmps d.size hd (λu Y=>by cases Y;exact C),?_,d.ext,d.new,d.fr,d.low,d.fz,d.gl⟩;exact ⟨d.mem.inj,λb q G=>jQ (d.mem.low b q G) (wG _ _),d.mem.dom,d.mem.blk⟩
 have m:(execOp a.eval o).run P w=.ok (.enter (fnF f) as) w:=by rw [z];exact hE _ _
 unfold Oper.wp;rw [m];simp only [Oper.upon];refine (hc ι s.nb w as d.mem (d.glHere λb q j=>by
  obtain ⟨x,C,rfl⟩:=sX j;exact ⟨vC r.wr ι x.1 _ j,ax (bz.1 D x C)⟩) (λx C q G=>by
  cases hc:q.fz with
  | false=>rfl
  | true=>have:=d.fz x.1 q G hc;have:=ax (bz.1 D x C);omega) (λb hb1 hb2=>I b hb1 (by omega)) L).mono λe w' h=>?_
 obtain ⟨i,S,g0,g2,g6,g3,g4,X⟩:=h;have M:∀b q,i b=some (some q)->q.fz=true->b<s.ro:=λb q j G=>d.fz b q (g6 b q j G) G;have K:∀b,isIn r.kill b=true->s.rb<=b:=by
  intro b j;obtain ⟨c,hc1,O⟩:=mC.1 j;rw [aS O];exact ax (bz.1 E c hc1)
 have t:∀b,isIn r.kill b=false->∀q,ι b=some q->i b=some q:=by
  intro b B q j;rw [S b B ?_];exact j;rcases aA b fr with h | h
  ·exact .inl h
  ·rcases aA b (fr+r.grow) with h' | h'
   ·have:=I b h (by omega);rw [this] at j;cases j
   ·exact .inr h'
 have k:∀b q,ι0 b=some q->i b=some q\/s.rb<=b:=by
  intro b q j;rcases d.ext b q j with h | h
  ·cases B:isIn r.kill b with
   | true=>exact .inr (K b B)
   | false=>exact .inl (t b B q h)
  ·exact .inr h
 have y:∀b q,i b=some (some q)->(∃F,ι0 b=some (some F)/\F.r=q.r)\/w0.w.heap.size<=q.r:=by
  intro b q j;cases B:isIn r.kill b with
  | true=>
   rcases g0 b q B j with ⟨F,W,h7⟩ | W
   ·rw [<-h7];exact d.new b F W
   ·exact .inr (mT d.fr.size W)
  | false=>
   by_cases hin:b<fr\/fr+r.grow<=b
   ·rw [S b B hin] at j;exact d.new b q j
   ·have:=g2 b q (by omega) (by omega) j;exact .inr (mT d.fr.size this)
 have p:Fr (roI ι0 s.ro) w0.w w':=d.fr.trans (λb q j=>by
  obtain ⟨x,C,rfl⟩:=sX j;have h1:=ax (bz.1 D x C);exact (d.new x.1 q (vC r.wr ι x.1 _ j)).imp (λ⟨F,h,hr⟩=>⟨F,vF h h1,hr⟩) id) g4
 have hT:=d.tmps.kill t;rw [St.kill_eq] at U hp;cases e with
 | returned x=>
  obtain ⟨R,p2⟩:=X;refine U R i _ _ S ⟨by rw [iZ];exact d.size,by rw [fc];exact d.defers,TR.app (s:={ T:=pD r.kill s.T,H:=tz r.kill s.H,nb:=s.nb,lo:=s.lo,ro:=s.ro,rb:=s.rb }) hT d.size hd (λu Y=>by cases Y;exact p2),g3,k,y,p,d.low,M,d.gl⟩
 | panicked N=>
  obtain ⟨R,x,rfl,p2⟩:=X;exact hp R i x _ p2 ⟨d.size,d.defers,hT,g3,k,y,p,d.low,M,d.gl⟩
 | outgrown=>exact X.elim
theorem zd {α:Type} {E:List Ent} (hE:∀x∈E,cD P x) {n fr:Nat} {ι0 ι:Inj} {w0:Base} {s:St} {o:Oper} {a:Act} {w:World} (I:Inv n ι0 w0 ι s a w)
  (B:∀b,fr<=b->b<fr+8->ι b=none) {k:St->List Nat->List (Nat×Blk)->Nat->Option α} {kp:V->St->Option α} {z:α} (h:wg P E n fr o s k kp=some z)
  {next:Act->World->Prop} {Q:Exit->Act->World->Prop}
  (hn:∀N rd wr g c p w',k N rd wr g=some z->(∀b,(b<fr\/fr+g<=b)->c b=ι b)->Inv n ι0 w0 c N p w'->next p w')
  (hp:∀v N c x p w',kp v N=some z->VR c v x->Inv n ι0 w0 c N p w'->Q (.panic [{ v:=x,recovered:=false }]) p w'):
  o.wp P a w next Q:=by
 have W:ι fr=none:=B fr (aL _) (by omega);unfold wg at h;split at h
 ·cases h
 rename_i hd;have L:ow P fr o s k=some z->o.wp P a w next Q:=by
  intro h;unfold ow at h;obtain ⟨e,R,M⟩:=Ba I.tmps I.mem W h;split at R;rename_i v wr g u;split at R
  case h_2=>cases R
  rename_i J;simp only [av] at J;have Z:=ax J.2;have F:∀O,e.wr=some O->e.new=true->O.1=fr:=λO T G=>dt.new_eq M T G;refine yw I W hd M (λG O T=>by
   have:=J.1;unfold roOK at this;rw [T] at this;simp only [G] at this;exact ax this) λc p w' C g2 d=>?_
  obtain ⟨X,k1,k2⟩:=uN u d (λb e1 e2 e3=>by
   by_cases j:b=fr
   ·subst j;rw [g2 (.inr (e3 rfl))];exact W
   ·rw [C b j];exact B b e1 (by omega)) F (nb:=nbOf s.nb fr g) (Av u) (Hw s.nb fr g)
  refine hn _ _ _ _ X p w' R (λb U=>?_) k2;rw [k1 b U];by_cases j:b=fr
  ·subst j;refine g2 (rO u (by omega))
  ·exact C b j
 split at h
 ·rename_i cl D;split at h
  ·rename_i g q;split at h
   ·rename_i f cap hg;obtain ⟨l,hl,h⟩:=ah h;obtain ⟨r,H,h3⟩:=pY hE h;split at H
    ·cases H
    rename_i m;simp only [av] at m;have A:r.kill=[]:=by simpa using m.2.2
    have Z:=ax m.1;obtain ⟨S,args,tys⟩:=cl;simp only at q;subst q;refine uv D I (λb e1 e2=>B b e1 (by omega)) hd hg hl m.2.1 (by rw [A];rfl) (h3 _ λ_ _=>rfl) (λi c p w' C d=>?_) (λi c x w' C d=>?_)
    ·rw [i] at H;rw [A] at C d;exact hn _ _ _ _ c p w' H (λb J=>C b rfl J) d
    ·rw [i] at H;rw [A] at d;exact hp _ _ c x a w' H C d
   ·cases h
  ·exact L h
 ·rename_i x D;split at h
  ·rename_i t v hx;have Y:=aP I.tmps hx;have hv':=Y;simp only [VR] at Y;obtain ⟨y,h6,_⟩:=Y;unfold Oper.wp;have K:(execOp a.eval o).run P w=.halt (.panic (.iface t y)) w:=by
    simp only [execOp,D,h6,Instr.panic,ak,run_goPanic,Result.andThen_halt]
   rw [K];exact hp _ _ ι _ a w h (h6▸hv') I
  ·cases h
 ·exact L h
theorem TR.again {ι:Inj} {T:List (Nat×Option V)} {E:Array Value} (C:TR ι T E) {d:Nat} {v:V} (F:look T d=some (some v)):TR ι ((d,some v)::T) E:=by
 intro t u A;rw [aF] at A;split at A
 ·rename_i e;subst e;simp only [ae] at A;subst A;exact C d v F
 ·exact C t u A
theorem Inv.again {n:Nat} {ι0 ι:Inj} {w0:Base} {s:St} {a:Act} {w:World} (h:Inv n ι0 w0 ι s a w) {d:Nat} {v:V} (A:look s.T d=some (some v)):
  Inv n ι0 w0 ι { s with T:=(d,some v)::s.T } a w:=
 ⟨h.size,h.defers,h.tmps.again A,h.mem,h.ext,h.new,h.fr,h.low,h.fz,h.gl⟩
theorem l9 {ops:List Oper} {j d:Nat} (h:gtmp ops j=some d) (a:Array Value):
  yielded ops.toArray a j=match a[d]? with | some (.bool b)=>some b | _=>none:=by
 unfold gtmp at h;split at h
 ·rename_i o c;have:(ops.toArray[j]?).bind (·.dst)=some d:=by simp [c,h]
  unfold yielded;rw [this];rfl
 ·cases h
theorem Bn {α:Type} {n:Nat} {ι0 ι:Inj} {w0:Base} {ops:List Oper} {o:Oper} {s:St} {a:Act} {w:World} (g:Inv n ι0 w0 ι s a w) {k:Bool->St->Option α} {z:α}
  (h:qT ops o s k=some z):∃c i,k c i=some z/\Inv n ι0 w0 ι i a w/\Region.wanted o (yielded ops.toArray a.tmps)=c/\(∀t,look i.T t=look s.T t)/\i.H=s.H/\i.nb=s.nb:=by
 unfold qT at h;split at h
 ·rename_i l;exact ⟨true,s,h,g,by simp [Region.wanted,l],λ_=>rfl,rfl,rfl⟩
 ·rename_i j c l;split at h
  case h_2=>cases h
  rename_i d r;have m:=l9 r a.tmps;have again:∀x,look s.T d=some (some (.b x))->∀t,look ((d,some (V.b x))::s.T) t=look s.T t:=by
   intro x f t;rw [aF];split
   ·rename_i e;subst e;exact f.symm
   ·rfl
  split at h
  ·rename_i x f;obtain ⟨y,q,p⟩:=g.tmps d _ f;simp only [VR] at p;subst p;rw [q] at m;cases x
   ·exact ⟨!c,_,h,g.again f,by cases c<;>simp [Region.wanted,l,m],again _ f,rfl,rfl⟩
   ·exact ⟨c,_,h,g.again f,by cases c<;>simp [Region.wanted,l,m],again _ f,rfl,rfl⟩
  ·rename_i f;obtain ⟨y,q,p⟩:=g.tmps d _ f;simp only [VR] at p;obtain ⟨u,rfl,_⟩:=p;rw [q] at m;exact ⟨false,s,h,g,by simp [Region.wanted,l,m],λ_=>rfl,rfl,rfl⟩
  ·cases h
theorem FO (ι:Inj):VR ι (.tp []) undef:=by
 simp only [VR];exact ⟨#[],rfl,by simp [VRs]⟩
theorem Inv.skip {n:Nat} {ι0 ι:Inj} {w0:Base} {s:St} {a:Act} {w:World} (h:Inv n ι0 w0 ι s a w) {d:Option Nat} (C:o8 n d=true):
  Inv n ι0 w0 ι (s.app d (some (.tp [])) [] s.nb) (a.put d undef) w:=
 ⟨by rw [iZ];exact h.size,by rw [fc];exact h.defers,h.tmps.app h.size C (λu A=>by cases A;exact FO ι),h.mem,h.ext,h.new,h.fr,h.low,h.fz,h.gl⟩
theorem Inv.fresh {n:Nat} {ι0 ι:Inj} {w0:Base} {s:St} {a:Act} {w:World} (h:Inv n ι0 w0 ι s a w):∀b,s.nb<=b->ι b=none:=by
 intro b A;cases hi:ι b with
 | none=>rfl
 | some r=>have:=h.mem.low b r hi;omega
end Go.Abs
