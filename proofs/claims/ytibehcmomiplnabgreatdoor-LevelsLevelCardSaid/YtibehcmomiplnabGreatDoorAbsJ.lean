
import Derived.Test.YtibehcmomiplnabGreatDoorAbsI
set_option linter.unusedSimpArgs false
set_option linter.unusedVariables false
set_option linter.defProp false
namespace Go.Abs
variable {P:Program}
def mA(P:Program)(f:Nat):Prop:=∀(args:Array Value) (w:World),(callFunc f args).run P w=.ok (.enter f args) w
def RetR(ι:Inj)(r:CR):Ending->Prop
 | .returned x=>r.pan=false/\VR ι r.val x
 | .panicked a=>r.pan=true/\∃x,a=[{ v:=x,recovered:=false }]/\VR ι r.val x
 | .outgrown=>False
def xP(wr:List (Nat×Blk))(ι:Inj):Inj:=λb=>if wr.any (λx=>Nat.beq x.1 b)then ι b else none
def JK(P:Program)(f:Nat)(args:List V)(H:List (Nat×Blk))(fr:Nat)(r:CR):Prop:=
 ∀(ι:Inj) (nb:Nat) (w:World) (c:Array Value),WR ι H nb w->GL (xP r.wr ι) w->(∀x∈r.wr,∀q,ι x.1=some (some q)->q.fz=false)->(∀b,fr<=b->b<fr+r.grow->ι b=none)->VRs ι args c.toList->
  Calls P f c w λe w'=>∃a:Inj,(∀b,isIn r.kill b=false->(b<fr\/fr+r.grow<=b)->a b=ι b)/\
   (∀b q,isIn r.kill b=true->a b=some (some q)->(∃d,ι b=some (some d)/\d.r=q.r)\/w.heap.size<=q.r)/\(∀b q,fr<=b->b<fr+r.grow->a b=some (some q)->w.heap.size<=q.r)/\(∀b q,a b=some (some q)->q.fz=true->ι b=some (some q))/\
   WR a (r.wr++Ds r.kill H) (max nb (fr+r.grow)) w'/\Fr (xP r.wr ι) w w'/\RetR a r e
mutual
def VR.kill{ι F:Inj}{K:List Nat}(h:∀b,isIn K b=false->∀q,ι b=some q->F b=some q):∀(v:V) (x:Value),VR ι v x->VR F (V.kill K v) x
 | .b _,_,hx | .i _ _,_,hx | .s _,_,hx | .pn,_,hx | .sn,_,hx | .nf,_,hx | .ni,_,hx | .ai _ _ _,_,hx | .unk,_,hx=>by simpa only[V.kill,VR]using hx
 | .p c o,x,hx=>by
  simp only[VR]at hx;obtain⟨q,C,rfl⟩:=hx;simp only[V.kill];cases hc:isIn K c with
  | true=>simp[VR,Value.cells,Value.oneCell']
  | false=>simp only[af,VR];exact⟨q,h c hc _ C,rfl⟩
 | .mp c,x,hx=>by
  simp only[VR]at hx;obtain⟨q,C,rfl⟩:=hx;simp only[V.kill];cases hc:isIn K c with
  | true=>simp[VR,Value.cells,Value.oneCell']
  | false=>simp only[af,VR];exact⟨q,h c hc _ C,rfl⟩
 | .pr z c j o,x,hx=>by
  simp only[VR]at hx;obtain⟨q,C,rfl⟩:=hx;simp only[V.kill];cases hc:isIn K c with
  | true=>simp[VR,Value.cells,Value.oneCell']
  | false=>simp only[af,VR];exact⟨q,h c hc _ C,rfl⟩
 | .sl c o n m,x,hx=>by
  simp only[VR]at hx;obtain⟨q,cp,C,E,O,rfl⟩:=hx;simp only[V.kill];cases hc:isIn K c with
  | true=>simp[VR,Value.cells,Value.oneCell']
  | false=>simp only[af,VR];exact⟨q,cp,h c hc _ C,E,O,rfl⟩
 | .ws c,x,hx=>by
  simp only[VR]at hx;simp only[V.kill];cases hc:isIn K c with
  | true=>rcases hx with⟨q,C,rfl⟩ | ⟨C,G,rfl⟩<;>simp[VR,Value.cells,Value.oneCell']
  | false=>
   simp only[af,VR];rcases hx with⟨q,C,rfl⟩ | ⟨C,G,rfl⟩
   ·exact .inl ⟨q,h c hc _ C,rfl⟩
   ·exact .inr ⟨h c hc _ C,G,rfl⟩
 | .rs z c j n _,x,hx=>by
  simp only[VR]at hx;simp only[V.kill];cases hc:isIn K c with
  | true=>rcases hx with⟨q,cp,o,C,E,O,rfl⟩ | ⟨C,E,G,rfl⟩<;>simp[VR,Value.cells,Value.oneCell']
  | false=>
   simp only[af,VR];rcases hx with⟨q,cp,o,C,E,O,rfl⟩ | ⟨C,E,G,rfl⟩
   ·exact .inl ⟨q,cp,o,h c hc _ C,E,O,rfl⟩
   ·exact .inr ⟨h c hc _ C,E,G,rfl⟩
 | .fn f cap,x,hx=>by
  simp only[V.kill,VR]at hx ⊢;obtain⟨J,C,E⟩:=hx;exact⟨J,C,VRs.kill h _ _ E⟩
 | .it t v,x,hx=>by
  simp only[V.kill,VR]at hx ⊢;obtain⟨y,C,E⟩:=hx;exact⟨y,C,VR.kill h _ _ E⟩
 | .ag l,x,hx=>by
  simp only[V.kill,VR]at hx ⊢;obtain⟨J,C,E⟩:=hx;exact⟨J,C,VRs.kill h _ _ E⟩
 | .tp l,x,hx=>by
  simp only[V.kill,VR]at hx ⊢;obtain⟨J,C,E⟩:=hx;exact⟨J,C,VRs.kill h _ _ E⟩
def VRs.kill{ι C:Inj}{K:List Nat}(h:∀b,isIn K b=false->∀q,ι b=some q->C b=some q):∀(l:List V) (E:List Value),VRs ι l E->VRs C (V.kills K l) E
 | [],_,hx=>by simpa[V.kills,VRs]using hx
 | v::l,E,hx=>by
  simp only[V.kills,VRs]at hx ⊢;obtain⟨y,J,F,O,G⟩:=hx;exact⟨y,J,F,VR.kill h _ _ O,VRs.kill h _ _ G⟩
end
def BR.kill{ι E:Inj}{K:List Nat}(h:∀b,isIn K b=false->∀q,ι b=some q->E b=some q){q:Rf}:∀{blk:Blk} {o:Obj},BR ι q blk o->BR E q (blk.kill K) o
 | .dead,_,_=>trivial
 | .rows t l,o,C=>C
 | .cells l,o,C=>by
  obtain⟨O,e,fr,G,J,F⟩:=C;exact⟨O,e,fr,G,VRs.kill h _ _ J,F⟩
 | .ints k n l,o,C=>C
 | .iter s pos,o,C=>C
 | .mp k l,o,C=>C
def xf(K:List Nat):∀(T:List (Nat×Option V)) (t:Nat),look (yp K T) t=(look T t).map (Option.map (V.kill K))
 | [],t=>rfl
 | (u,none)::T,t=>by
  simp only[yp,bh,xf K T];split<;>rfl
 | (u,some v)::T,t=>by
  simp only[yp,bh,xf K T];split<;>rfl
def xM(K:List Nat):∀(H:List (Nat×Blk)) (b:Nat),look (Ds K H) b=(look H b).map (Blk.kill K)
 | [],t=>rfl
 | (u,v)::T,t=>by
  simp only[Ds,bh,xM K T];split<;>rfl
def TR.kill{ι E:Inj}{K:List Nat}(h:∀b,isIn K b=false->∀q,ι b=some q->E b=some q){T:List (Nat×Option V)}{G:Array Value}(J:TR ι T G):TR E (yp K T) G:=by
 intro t v C;rw[xf]at C;cases F:look T t with
 | none=>simp[F]at C
 | some o=>
  cases o with
  | none=>simp[F]at C
  | some u=>
   simp only[F,fQ,aw]at C;subst C;obtain⟨x,O,Q⟩:=J t u F;exact⟨x,O,VR.kill h _ _ Q⟩
mutual
def V.kill_nil:∀v:V,V.kill [] v=v
 | .b _ | .i _ _ | .s _ | .pn | .sn | .nf | .ni | .ai _ _ _ | .unk | .p _ _ | .pr _ _ _ _ | .sl _ _ _ _ | .ws _ | .rs _ _ _ _ _ | .mp _=>rfl
 | .fn f l | .ag l | .tp l=>by simp only[V.kill,V.kills_nil l]
 | .it t v=>by simp only[V.kill,V.kill_nil v]
def V.kills_nil:∀l:List V,V.kills [] l=l
 | []=>rfl
 | v::l=>by simp only[V.kills,V.kill_nil v,V.kills_nil l]
end
def wK:∀H:List (Nat×Blk),Ds [] H=H
 | []=>rfl
 | (b,x)::H=>by
  simp only[Ds,wK H];cases x<;>simp only[Blk.kill,V.kills_nil]
def A4:∀T:List (Nat×Option V),yp [] T=T
 | []=>rfl
 | (b,none)::T=>by simp only[yp,A4 T]
 | (b,some x)::T=>by simp only[yp,A4 T,V.kill_nil]
def St.kill_eq(K:List Nat)(s:St):s.kill K={ T:=yp K s.T,H:=Ds K s.H,nb:=s.nb,lo:=s.lo,ro:=s.ro,rb:=s.rb }:=by
 cases K with
 | nil=>simp only[St.kill,A4,wK]
 | cons b K=>rfl
def abU(P:Program)(f:Nat)(args:List V)(r:CR):Prop:=
 r.pan=false/\r.wr=[]/\r.grow=0/\r.kill=[]/\∀(ι:Inj) (w:World) (a:Array Value),VRs ι args a.toList->∃x,(callFunc f a).run P w=.ok (.value x) w/\VR ι r.val x
def GoOK(P:Program)(f:Nat)(args:List V)(H:List (Nat×Blk))(fr:Nat)(r:CR):Prop:=(mA P f/\JK P f args H fr r)\/abU P f args r
def gV(P:Program)(x:Ent):Prop:=
 ∀(α:Type) (args:List V) (H:List (Nat×Blk)) (fr:Nat) (k:CR->Option α) (z:α),x.e α args H fr k=some z->
  ∃r,k r=some z/\∀a,(∀b∈r.rd,look a b=look H b)->GoOK P x.f args a fr r
def yR{α:Type}{f:Nat}{args:List V}{H:List (Nat×Blk)}{fr:Nat}{k:CR->Option α}{z:α}:∀{E:List Ent},(∀x∈E,gV P x)->ML α f args H fr k E=some z->
  ∃r,k r=some z/\∀d,(∀b∈r.rd,look d b=look H b)->GoOK P f args d fr r
 | [],_,h=>by simp[ML]at h
 | x::E,c,h=>by
  simp only[ML]at h;cases a:Nat.beq x.f f with
  | true=>
   rw[a]at h;have e:=bO a;subst e;exact c x (by simp) α args H fr k z h
  | false=>
   rw[a]at h;exact yR (λy hy=>c y (fV _ hy)) h
def ExR(ι:Inj):Ex->Exit->Prop
 | .normal,e=>e=.normal
 | .exit id,e=>e=.exit id
 | .ret,e=>e=.ret
 | .pan v,e=>∃x,e=.panic [{ v:=x,recovered:=false }]/\VR ι v x
def Post(n:Nat)(ι0:Inj)(w0:Base)(b:Ex->St->Prop):Exit->Act->World->Prop:=
 λe a w=>∃ex s ι,ExR ι ex e/\Inv n ι0 w0 ι s a w/\b ex s
def SemC(P:Program)(n:Nat)(c:Code)(s:St)(b:Ex->St->Prop):Prop:=
 ∀(ι0:Inj) (w0:Base) (ι:Inj) (a:Act) (w:World),Inv n ι0 w0 ι s a w->c.wp P (Post n ι0 w0 b) a w
def ln(P:Program)(n:Nat)(L:List Sub):AC->Prop
 | .seq a b | .cond _ a b=>ln P n L a/\ln P n L b
 | .block _ a | .scope a | .loop a=>ln P n L a
 | .sub m c=>∀(α:Type) (s:St) (k:Ex->St->Option α) (z:α),MG α m s k L=some z->SemC P n c.code s λex s'=>k ex s'=some z
 | _=>True
def Fr.trans{ι0 J:Inj}{w0 w w':World}(h:Fr ι0 w0 w)(W:∀b q,J b=some (some q)->(∃G,ι0 b=some (some G)/\G.r=q.r)\/w0.heap.size<=q.r)(C:Fr J w w'):Fr ι0 w0 w':=by
 refine⟨C.os.trans h.os,C.tape.trans h.tape,C.output.trans h.output,tY h.size C.size,λk E F=>?_⟩;rw[C.blk k (re E h.size) ?_,h.blk k E F];intro b q Q;rcases W b q Q with⟨G,O,U⟩ | O
 ·rw[<-U];exact F b G O
 ·omega
def o9(a:Act)(d:Option Nat)(v:Value):(a.put d v).tmps.size=a.tmps.size:=by
 cases d<;>simp[Act.put]
def kJ(a:Act)(d:Option Nat)(v:Value):(a.put d v).defers=a.defers:=by
 cases d<;>rfl
def TR.app{ι:Inj}{s:St}{a:Act}{n:Nat}{d:Option Nat}{v:Option V}{x:Value}{wr:List (Nat×Blk)}{nb:Nat}(C:TR ι s.T a.tmps)(hs:a.tmps.size=n)(F:xn n d=true)
  (E:∀u,v=some u->VR ι u x):TR ι (s.app d v wr nb).T (a.put d x).tmps:=by
 cases d with
 | none=>exact C
 | some d=>exact C.put (by rw[hs];exact aR F) E
def Inv.drawn{n:Nat}{ι0 ι:Inj}{w0:Base}{s:St}{a:Act}{w:World}(h:Inv n ι0 w0 ι s a w)(m:Nat):Inv n ι0 w0 ι s a { w with drawn:=m }:=
 ⟨h.size,h.defers,h.tmps,h.mem.draws m,h.ext,h.new,h.fr.draws m,h.low,h.fz,h.gl⟩
def JF {n fr:Nat} {ι0 ι:Inj} {w0:Base} {s:St} {o:Oper} {a:Act} {w:World} {e:Eff} (f:Inv n ι0 w0 ι s a w) (H:ι fr=none) (F:xn n o.dst=true)
  (h:iJ P ι fr o a w e) (l:e.new=false->∀G,e.wr=some G->s.ro<=G.1) {next:Act->World->Prop} {Q:Exit->Act->World->Prop}
  (B:∀g J w',(∀b,b≠fr->g b=ι b)->(e.new=false\/e.wr=none->g fr=ι fr)->
   Inv n ι0 w0 g (s.app o.dst e.val e.wr.toList (if e.new=true/\e.wr≠none then max s.nb (fr+1) else s.nb)) J w'->next J w'):
  o.wp P a w next Q:=by
 have fin:∀{x:Next} {w':World} {g:Inj},(execOp a.eval o).run P w=.ok x w'->NextR g e.val x->(∀y,(∀u,e.val=some u->VR g u y)->next (a.put o.dst y) w')->o.wp P a w next Q:=by
  intro x w' g C hx hy;unfold Oper.wp;rw [C];cases hx with
  | skip E=>exact hy _ (λu K=>by rw [E] at K;cases K)
  | value x E=>exact hy _ E
 unfold iJ at h;split at h
 ·rename_i k;obtain ⟨x,t,m⟩:=h;refine fin t m λy hy=>B ι _ _ (λ_ _=>rfl) (λ_=>rfl) ?_;rw [k];simp only [ne_eq,xj,and_false,aF];exact ⟨by rw [o9];exact f.size,by rw [kJ];exact f.defers,f.tmps.app f.size F hy,f.mem,f.ext,f.new,f.fr,f.low,f.fz,f.gl⟩
 ·rename_i b blk k;split at h
  ·rename_i i;obtain ⟨r,t,M⟩:=h;have v:r.fz=false:=by
    cases hc:r.fz with
    | false=>rfl
    | true=>have:=f.fz b r t hc;have:=l i _ k;simp only at this;omega
   obtain ⟨ob,x,m,A,z⟩:=M v;refine fin m z λy hy=>B ι _ _ (λ_ _=>rfl) (λ_=>rfl) ?_;rw [k,i];simp only [bI,AB,aF];refine ⟨by rw [o9];exact f.size,by rw [kJ];exact f.defers,f.tmps.app f.size F hy,f.mem.write t v A,f.ext,f.new,?_,f.low,f.fz,f.gl⟩;exact f.fr.write ((f.new b r t).imp (λ⟨L,h,C⟩=>⟨b,L,HI h (l i _ k),C⟩) id) _
  ·rename_i i;obtain ⟨rfl,d,q,ob,x,m,I,D,A,z⟩:=h;have j:=sO (r:=some q) H;refine fin m z λy hy=>B (upd ι b (some q)) _ _ (λc hc=>by simp [upd,hc]) (λhc=>by rw [i,k] at hc;simp at hc) ?_;rw [k,i];simp only [ne_eq,reduceCtorEq,H7,and_self,aS]
   refine ⟨by rw [o9];exact f.size,by rw [kJ];exact f.defers,(f.tmps.mono j).app f.size F hy,(f.mem.draws d).alloc H (by simp only [St.app];omega) (by simp only [St.app];omega) I A,λc q hc=>(f.ext c q hc).imp (j _ _) id,λc q hc=>?_,(f.fr.draws d).alloc ob,f.low,λc p hc hp=>by
    unfold upd at hc;split at hc
    ·simp only [aw] at hc;subst hc;rw [D] at hp;cases hp
    ·exact f.fz c p hc hp,f.gl⟩
   unfold upd at hc;split at hc
   ·simp only [aw] at hc;subst hc;exact .inr (by rw [I];exact f.fr.size)
   ·exact f.new c q hc
def Inv.phantom'{n:Nat}{ι0 ι:Inj}{w0:Base}{s:St}{a:Act}{w:World}(E:Inv n ι0 w0 ι s a w){g:Nat}(X:ι g=none){nb:Nat}(U:s.nb<=nb)(Z:g<nb)(tr:List Lf):
  Inv n ι0 w0 (upd ι g none) { T:=s.T,H:=(g,.rows tr [])::s.H,nb:=nb,lo:=s.lo,ro:=s.ro,rb:=s.rb } a w:=by
 have F:=sO (r:=none) X;have G:∀b,b≠g->upd ι g none b=ι b:=λb J=>by simp[upd,J]
 have C:∀b q,upd ι g none b=some (some q)->ι b=some (some q):=by
  intro b q h;by_cases J:b=g
  ·subst J;rw[ek]at h;cases h
  ·rwa[G b J]at h
 refine⟨E.size,E.defers,E.tmps.mono F,⟨λb W q Y e1 e2=>E.mem.inj b W q Y (C _ _ e1) (C _ _ e2),λb q e=>?_,λb q e=>E.mem.dom b q (C _ _ e),λb y O hd=>?_⟩,
  λb q e=>(E.ext b q e).imp (F _ _) id,λb q e=>E.new b q (C _ _ e),E.fr,E.low,λb q e=>E.fz b q (C _ _ e),E.gl⟩
 ·by_cases J:b=g
  ·subst J;exact Z
  ·rw[G b J]at e;exact re (E.mem.low b q e) U
 ·rw[bh]at O;split at O
  ·rename_i e;subst e;simp only[aw]at O;subst O;exact .inr ⟨ek _ _ _,tr,rfl⟩
  ·rename_i Q;exact(E.mem.blk b y O hd).map (G b (λe=>Q e.symm)) (λ_ _=>rfl) (λ_ _ h=>BR.mono F h) (λ_ h=>h)
def Inv.setnb{n:Nat}{ι0 ι:Inj}{w0:Base}{s:St}{a:Act}{w:World}(C:Inv n ι0 w0 ι s a w){nb:Nat}(h:s.nb<=nb):
  Inv n ι0 w0 ι { T:=s.T,H:=s.H,nb:=nb,lo:=s.lo,ro:=s.ro,rb:=s.rb } a w:=
 ⟨C.size,C.defers,C.tmps,⟨C.mem.inj,λb q e=>re (C.mem.low b q e) h,C.mem.dom,C.mem.blk⟩,C.ext,C.new,C.fr,C.low,C.fz,C.gl⟩
def VK{ι:Inj}{g:Nat}(a:ι g=some none){x:Value}(h:VR ι .sn x):VR ι (.ws g) x:=by
 simp only[VR]at h ⊢;exact .inr ⟨a,none,h⟩
def EN:∀(ns:List (Nat×List Lf)) (g:Nat) (l:List V) (acc:List (Nat×Blk)) (t:List V) (H:List (Nat×Blk)),nilL g ns l acc=(t,H)->∃m,H=m++acc/\
  ∀{n:Nat} {ι0 ι:Inj} {w0:Base} {s:St} {a:Act} {w:World},Inv n ι0 w0 ι s a w->(∀b,g<=b->b<g+m.length->ι b=none)->∀nb,s.nb<=nb->(m=[]\/g+m.length<=nb)->
   ∃c,(∀b,(b<g\/g+m.length<=b)->c b=ι b)/\(∀b q,ι b=some q->c b=some q)/\(∀k,VRs c l k->VRs c t k)/\
    Inv n ι0 w0 c { T:=s.T,H:=m++s.H,nb:=nb,lo:=s.lo,ro:=s.ro,rb:=s.rb } a w
 | [],g,l,acc,t,H,h=>by
  simp only[nilL,bP]at h;obtain⟨rfl,rfl⟩:=h;exact⟨[],rfl,λ{n ι0 ι w0 s a w} z d nb A u=>⟨ι,λ_ _=>rfl,λ_ _ h=>h,λ_ h=>h,z.setnb A⟩⟩
 | (i,tr)::r,g,l,acc,t,H,h=>by
  simp only[nilL]at h;split at h
  ·rename_i hi;obtain⟨v,rfl,E⟩:=EN r (g+1) _ _ _ _ h;refine⟨v++[(g,.rows tr [])],by simp,λ{n ι0 ι w0 s a w} z d nb A u=>?_⟩;have p:(v++[((g,.rows tr []):Nat×Blk)]).length=v.length+1:=by simp
   rw[p]at d u ⊢;have u:g+(v.length+1)<=nb:=u.resolve_left (by simp);have C:=d g (bi _) (by omega);have o:=sO (r:=none) C
   obtain⟨c,k1,k2,k3,k4⟩:=E (z.phantom' C A (by omega) tr) (λb G F=>by
    have:upd ι g none b=ι b:=by simp[upd,show b≠g by omega]
    rw[this];exact d b (by omega) (by omega)) nb (bi _) (.inr (by omega))
   refine⟨c,λb B=>?_,λb q B=>k2 b q (o b q B),λk hx=>k3 k ?_,by simpa using k4⟩
   ·rw[k1 b (by omega)];simp[upd,show b≠g by omega]
   ·obtain⟨x,f,y⟩:=hx.get hi;have:=hx.set i (VK (g:=g) (k2 _ _ (ek _ _ _)) y);rwa[show k.set i x=k from by
     apply CS;intro j;rw[List.getElem?_set];split
     ·rename_i e;subst e;split
      ·exact f.symm
      ·rename_i D;rw[gS (by omega)]at f;cases f
     ·rfl]at this
  ·exact EN r g l acc t H h
def WG{α:Type}(l m:List (Nat×α))(n:Nat):look (l++m) n=(look l n).or (look m n):=by
 induction l with
 | nil=>rfl
 | cons x l ih=>
  obtain⟨k,v⟩:=x;rw[fK,bh,bh,ih];split<;>rfl
def Inv.reH{n:Nat}{ι0 ι:Inj}{w0:Base}{T:List (Nat×Option V)}{A B:List (Nat×Blk)}{b nb lo ro rb:Nat}{l G:List V}{a:Act}{w:World}
  (E:Inv n ι0 w0 ι ⟨T,A++(b,.cells l)::B,nb,lo,ro,rb⟩ a w) (h:∀O,VRs ι l O->VRs ι G O):Inv n ι0 w0 ι ⟨T,A++(b,.cells G)::B,nb,lo,ro,rb⟩ a w:=by
 refine⟨E.size,E.defers,E.tmps,⟨E.mem.inj,E.mem.low,E.mem.dom,λc y hc Q=>?_⟩,E.ext,E.new,E.fr,E.low,E.fz,E.gl⟩;have C:=E.mem.blk c;rw[WG,bh]at hc C;cases J:look A c with
 | some z=>rw[J]at hc C;exact C y hc Q
 | none=>
  rw[J]at hc C;simp only[I4]at hc C;split at hc
  ·rename_i e;rw[ae e]at C;simp only[aw]at hc;subst hc;rcases C _ rfl (by simp)with⟨q,o,W,F,X⟩ | ⟨_,t,F⟩
   ·obtain⟨cs,Z,fr,g1,Y,U⟩:=X;exact .inl ⟨q,o,W,F,cs,Z,fr,g1,h _ Y,U⟩
   ·cases F
  ·rename_i e;rw[ab e]at C;exact C y hc Q
def Inv.reT{n:Nat}{ι0 ι:Inj}{w0:Base}{s:St}{wr:List (Nat×Blk)}{d:Option Nat}{nb:Nat}{v J:V}{a:Act}{w:World}
  (E:Inv n ι0 w0 ι (s.app d (some v) wr nb) a w) (h:∀x,VR ι v x->VR ι J x):Inv n ι0 w0 ι (s.app d (some J) wr nb) a w:=by
 refine⟨E.size,E.defers,?_,E.mem,E.ext,E.new,E.fr,E.low,E.fz,E.gl⟩;have G:=E.tmps;cases d with
 | none=>exact G
 | some d=>
  intro t u F;have C:=G t;simp only[St.app,bh]at F C;split at F
  ·rename_i e;rw[ae e]at C;simp only[aw]at F;subst F;obtain⟨x,O,Q⟩:=C v rfl;exact⟨x,O,h x Q⟩
  ·rename_i e;rw[ab e]at C;exact C u F
def Yn{P:Program}{t:TypeId}{g:Nat}{v m:V}{f:List (Nat×Blk)}(h:nilV P t g v=(m,f)){n:Nat}{ι0 ι:Inj}{w0:Base}{s:St}{d:Option Nat}{nb0:Nat}{a:Act}{w:World}
  (p:Inv n ι0 w0 ι (s.app d (some v) [] nb0) a w) (k:∀b,g<=b->b<g+f.length->ι b=none) {nb:Nat} (q:nb0<=nb) (o:f=[]\/g+f.length<=nb):
  ∃c,(∀b,(b<g\/g+f.length<=b)->c b=ι b)/\Inv n ι0 w0 c (s.app d (some m) f nb) a w:=by
 have j:(v,([]:List (Nat×Blk)))=(m,f)->∃c,(∀b,(b<g\/g+f.length<=b)->c b=ι b)/\Inv n ι0 w0 c (s.app d (some m) f nb) a w:=by
  intro e;simp only[bP]at e;obtain⟨rfl,rfl⟩:=e;exact⟨ι,λ_ _=>rfl,p.setnb q⟩
 unfold nilV at h;split at h
 ·split at h
  ·rename_i i tr r F;simp only[bP]at h;obtain⟨rfl,rfl⟩:=h;have B:=k g (bi _) (by simp);have o:g+1<=nb:=by simpa using o
   have:=p.phantom' B q o tr;exact⟨upd ι g none,λb y=>by simp only[List.length_singleton]at y;simp[upd,show b≠g by omega],Inv.reT (s:=s) (wr:=[(g,.rows tr [])]) (v:=.sn) this λx hx=>VK (ek _ _ _) hx⟩
  ·exact j h
 ·rename_i l;split at h;rename_i G z u;simp only[bP]at h;obtain⟨rfl,rfl⟩:=h;obtain⟨H,e,E⟩:=EN _ _ _ _ _ _ u;rw[mi]at e;subst e;obtain⟨c,k1,k2,k3,k4⟩:=E p k nb q o;refine⟨c,k1,Inv.reT (s:=s) (wr:=z) (v:=.ag l) k4 λx hx=>?_⟩;simp only[VR]at hx ⊢;obtain⟨A,D,C⟩:=hx;exact⟨A,D,k3 _ C⟩
 ·exact j h
def XN(nb fr:Nat):∀g,g=0\/fr+g<=nbOf nb fr g
 | 0=>.inl rfl
 | _+1=>.inr (Nat.le_max_right _ _)
def Jp{P:Program}{fr:Nat}{o:Oper}{e:Eff}{v:Option V}{wr:List (Nat×Blk)}{g:Nat}(h:Dh P fr o e=(v,wr,g))(c:g=0):e.new=false\/e.wr=none:=by
 unfold Dh at h;split at h
 ·rename_i b;exact .inr b
 ·split at h
  ·rename_i a;exact .inl a
  ·split at h
   ·split at h;simp only[bP]at h;omega
   ·simp only[bP]at h;omega
def iJ.new_eq{ι:Inj}{f:Nat}{o:Oper}{a:Act}{w:World}{e:Eff}(h:iJ P ι f o a w e){C:Nat×Blk}(F:e.wr=some C)(E:e.new=true):C.1=f:=by
 unfold iJ at h;rw[F]at h;simp only[E]at h;exact h.1
def O7{P:Program}{fr:Nat}{o:Oper}{e:Eff}{v:Option V}{wr:List (Nat×Blk)}{g:Nat}(h:Dh P fr o e=(v,wr,g)){n:Nat}{ι0 ι:Inj}{w0:Base}{s:St}{nb0 nb:Nat}{a:Act}{w:World}
  (j:Inv n ι0 w0 ι (s.app o.dst e.val e.wr.toList nb0) a w) (p:∀b,fr<=b->b<fr+g->(b=fr->e.wr=none)->ι b=none) (G:∀m,e.wr=some m->e.new=true->m.1=fr) (z:nb0<=nb) (C:g=0\/fr+g<=nb):
  ∃f,(∀b,(b<fr\/fr+g<=b)->f b=ι b)/\Inv n ι0 w0 f (s.app o.dst v wr nb) a w:=by
 have i:(e.val,e.wr.toList)=(v,wr)->∃f,(∀b,(b<fr\/fr+g<=b)->f b=ι b)/\Inv n ι0 w0 f (s.app o.dst v wr nb) a w:=by
  intro e;simp only[bP]at e;obtain⟨rfl,rfl⟩:=e;exact⟨ι,λ_ _=>rfl,j.setnb z⟩
 unfold Dh at h;split at h
 ·rename_i k;rw[k]at j i;split at h
  ·rename_i t u O J;split at h;rename_i L H F;simp only[bP]at h;obtain⟨rfl,rfl,rfl⟩:=h;rw[J]at j;obtain⟨f,k1,k2⟩:=Yn F (d:=o.dst) (s:=s) j (λb x I=>p b x I λ_=>k) z (C.imp (λh=>vi h) id);exact⟨f,k1,k2⟩
  ·simp only[bP]at h;exact i (by simp[h.1,h.2.1])
 ·rename_i m k;rw[k]at i;split at h
  ·simp only[bP]at h;exact i (by simp[h.1,h.2.1])
  ·rename_i y;split at h
   ·rename_i t l M r;split at h;rename_i N H E;simp only[bP]at h;obtain⟨rfl,rfl,rfl⟩:=h;obtain⟨S,D,K⟩:=EN _ _ _ _ _ _ E;rw[mi]at D;subst D;rw[k]at j;have x:=G m k y;obtain⟨b,blk⟩:=m;simp only at r x;subst r x;obtain⟨f,k1,k2,k3,k4⟩:=K j (λc R Q=>p c (by omega) (by omega) (λq=>by omega)) nb z (C.elim (λh=>by omega) λh=>.inr (by omega));refine⟨f,λc hc=>k1 c (by omega),?_⟩;have:=Inv.reH (A:=H) (B:=s.H) (b:=b) k4 k3;simpa[St.app]using this
   ·simp only[bP]at h;exact i (by simp[h.1,h.2.1])
def Vb{ι:Inj}{T:List (Nat×Option V)}{a:Act}(c:TR ι T a.tmps){g:Operand}{f:Nat}{cap:List V}(h:opd T g=some (.fn f cap)):
  ∃b:Array Value,a.eval g=fnV f b/\VRs ι cap b.toList:=by
 have:=bL c h;simpa only[VR]using this
def Cm{wr:List (Nat×Blk)}{ι:Inj}{b:Nat}{r:Option Rf}(h:xP wr ι b=some r):∃x∈wr,x.1=b:=by
 unfold xP at h;split at h
 ·rename_i a;obtain⟨x,hx,c⟩:=vk.1 a;exact⟨x,hx,bO c⟩
 ·cases h
def Gu(wr:List (Nat×Blk))(ι:Inj):∀b r,xP wr ι b=some r->ι b=some r:=by
 intro b r h;unfold xP at h;split at h
 ·exact h
 ·cases h
def S3{K f:Nat}{ι:Inj}{o:Oper}{a:Act}{g:Operand}{args:Array Operand}{d:Array TypeId}{c:Array Value}{cap l:List V}(e:o.op=.call ⟨.value g,args,d⟩)
  (b:a.eval g=fnW K f c) (i:VRs ι cap c.toList) (h:VRs ι l (args.toList.map a.eval)) (w:World):
  ∃as:Array Value,VRs ι (fnAW K f l cap) as.toList/\(execOp a.eval o).run P w=(callFunc (fnFW K f) as).run P w:=by
 unfold fnAW fnFW;unfold fnW at b;cases j:Nat.blt f K<;>rw[j]at b<;>simp only at b ⊢
 ·refine⟨c++args.map a.eval,by simpa using i.append h,?_⟩;simp only[execOp,e,resolve,b,Deferred.ofValue,Array.append_empty,ay,aH,aE,invoke]
 ·refine⟨args.map a.eval++c,by simpa using h.append i,?_⟩;simp only[execOp,e,resolve,b,Deferred.ofValue,Array.empty_append,ay,aH,aE,invoke]
def DL{n fr:Nat}{ι0 ι:Inj}{w0:Base}{s:St}{o:Oper}{a:Act}{w:World}{g:Operand}{args:Array Operand}{tys:Array TypeId}{f:Nat}{cap l:List V}{r:CR}
  (ho:o.op=.call ⟨.value g,args,tys⟩) (d:Inv n ι0 w0 ι s a w) (J:∀b,fr<=b->b<fr+r.grow->ι b=none) (hd:xn n o.dst=true)
  (hg:opd s.T g=some (.fn f cap)) (hl:opds (opd s.T) args.toList=some l) (A:r.wr.all (λx=>Nat.ble s.ro x.1)=true)
  (C:r.kill.all (λb=>Nat.ble s.rb b)=true) (hc:GoOK P (fnF f) (fnA f l cap) s.H fr r)
  {next:Act->World->Prop} {Q:Exit->Act->World->Prop}
  (O:r.pan=false->∀i a' w',(∀b,isIn r.kill b=false->(b<fr\/fr+r.grow<=b)->i b=ι b)->Inv n ι0 w0 i ((s.kill r.kill).app o.dst (some r.val) r.wr (max s.nb (fr+r.grow))) a' w'->next a' w')
  (hp:r.pan=true->∀i x w',VR i r.val x->Inv n ι0 w0 i ((s.kill r.kill).app none none r.wr (max s.nb (fr+r.grow))) a w'->Q (.panic [{ v:=x,recovered:=false }]) a w'):
  o.wp P a w next Q:=by
 obtain⟨cs,Y,h2⟩:=Vb d.tmps hg;have h3:=zu d.tmps hl;obtain⟨as,K,z⟩:=S3 (P:=P) ho (show a.eval g=fnW 1000000 f cs from Y) h2 h3 w;rcases hc with⟨hE,hc⟩ | ⟨a1,a2,a3,a4,G⟩
 case inr=>
  obtain⟨x,B,hx⟩:=G ι w as K;have m:(execOp a.eval o).run P w=.ok (.value x) w:=by rw[z];exact B
  unfold Oper.wp;rw[m];refine O a1 ι _ _ (λ_ _ _=>rfl) ?_;rw[a2,a3,a4,dj];refine⟨by rw[o9];exact d.size,by rw[kJ];exact d.defers,TR.app (s:=s) d.tmps d.size hd (λu hu=>by cases hu;exact hx),?_,d.ext,d.new,d.fr,d.low,d.fz,d.gl⟩;exact⟨d.mem.inj,λb q E=>re (d.mem.low b q E) (I0 _ _),d.mem.dom,d.mem.blk⟩
 have m:(execOp a.eval o).run P w=.ok (.enter (fnF f) as) w:=by rw[z];exact hE _ _
 unfold Oper.wp;rw[m];simp only[Oper.upon];refine(hc ι s.nb w as d.mem (d.glHere λb q j=>by
  obtain⟨x,hx,rfl⟩:=Cm j;exact⟨Gu r.wr ι x.1 _ j,aR (cb.1 A x hx)⟩) (λx hx q E=>by
  cases hc:q.fz with
  | false=>rfl
  | true=>have:=d.fz x.1 q E hc;have:=aR (cb.1 A x hx);omega) (λb hb1 hb2=>J b hb1 (by omega)) K).mono λe w' h=>?_
 obtain⟨i,W,g0,g2,g6,g3,g4,g5⟩:=h;have L:∀b q,i b=some (some q)->q.fz=true->b<s.ro:=λb q j E=>d.fz b q (g6 b q j E) E;have I:∀b,isIn r.kill b=true->s.rb<=b:=by
  intro b j;obtain⟨c,U,X⟩:=vk.1 j;rw[bO X];exact aR (cb.1 C c U)
 have p:∀b,isIn r.kill b=false->∀q,ι b=some q->i b=some q:=by
  intro b D q j;rw[W b D ?_];exact j;rcases aN b fr with h | h
  ·exact .inl h
  ·rcases aN b (fr+r.grow)with h' | h'
   ·have:=J b h (by omega);rw[this]at j;cases j
   ·exact .inr h'
 have k:∀b q,ι0 b=some q->i b=some q\/s.rb<=b:=by
  intro b q j;rcases d.ext b q j with h | h
  ·cases D:isIn r.kill b with
   | true=>exact .inr (I b D)
   | false=>exact .inl (p b D q h)
  ·exact .inr h
 have y:∀b q,i b=some (some q)->(∃F,ι0 b=some (some F)/\F.r=q.r)\/w0.w.heap.size<=q.r:=by
  intro b q j;cases D:isIn r.kill b with
  | true=>
   rcases g0 b q D j with⟨F,S,h7⟩ | S
   ·rw[<-h7];exact d.new b F S
   ·exact .inr (tY d.fr.size S)
  | false=>
   by_cases R:b<fr\/fr+r.grow<=b
   ·rw[W b D R]at j;exact d.new b q j
   ·have:=g2 b q (by omega) (by omega) j;exact .inr (tY d.fr.size this)
 have t:Fr (roI ι0 s.ro) w0.w w':=d.fr.trans (λb q j=>by
  obtain⟨x,hx,rfl⟩:=Cm j;have Y:=aR (cb.1 A x hx);exact(d.new x.1 q (Gu r.wr ι x.1 _ j)).imp (λ⟨F,h,hr⟩=>⟨F,HI h Y,hr⟩) id) g4
 have hT:=d.tmps.kill p;rw[St.kill_eq]at O hp;cases e with
 | returned x=>
  obtain⟨N,M⟩:=g5;refine O N i _ _ W ⟨by rw[o9];exact d.size,by rw[kJ];exact d.defers,TR.app (s:={ T:=yp r.kill s.T,H:=Ds r.kill s.H,nb:=s.nb,lo:=s.lo,ro:=s.ro,rb:=s.rb }) hT d.size hd (λu hu=>by cases hu;exact M),g3,k,y,t,d.low,L,d.gl⟩
 | panicked Z=>
  obtain⟨N,x,rfl,M⟩:=g5;exact hp N i x _ M ⟨d.size,d.defers,hT,g3,k,y,t,d.low,L,d.gl⟩
 | outgrown=>exact g5.elim
def CN{b:Bool}{P:Program}{fr:Nat}{o:Oper}{e:Eff}{v:Option V}{wr:List (Nat×Blk)}{g:Nat}(h:xB b P fr o e=(v,wr,g)):Dh P fr o e=(v,wr,g)\/(e.val,e.wr.toList,Wn e)=(v,wr,g):=by
 unfold xB at h;split at h;rename_i d c f a;split at h
 ·exact .inl (a.trans h)
 ·split at h
  ·exact .inr h
  ·exact .inl (a.trans h)
def ya{d:Bool}{P:Program}{fr:Nat}{o:Oper}{e:Eff}{v:Option V}{wr:List (Nat×Blk)}{g:Nat}(h:xB d P fr o e=(v,wr,g))(a:g=0):e.new=false\/e.wr=none:=by
 rcases CN h with h | h
 ·exact Jp h a
 ·simp only[bP]at h;have h:=h.2.2;rw[a]at h;unfold Wn at h;split at h
  ·rename_i c;exact .inr c
  ·left;cases b:e.new with
   | false=>rfl
   | true=>rw[b]at h;cases h
def M4{a:Bool}{P:Program}{fr nb:Nat}{o:Oper}{e:Eff}{v:Option V}{wr:List (Nat×Blk)}{g:Nat}(h:xB a P fr o e=(v,wr,g)):
  (if e.new=true/\e.wr≠none then max nb (fr+1)else nb)<=nbOf nb fr g:=by
 cases g with
 | zero=>
  have:=ya h rfl;rw[ab (λhc=>by rcases this with h | h;rw[h]at hc;cases hc.1;exact hc.2 h)];exact bi _
 | succ g=>
  simp only[nbOf];split<;>omega
def CQ{k:Bool}{P:Program}{fr:Nat}{o:Oper}{e:Eff}{v:Option V}{wr:List (Nat×Blk)}{g:Nat}(h:xB k P fr o e=(v,wr,g)){n:Nat}{ι0 ι:Inj}{w0:Base}{s:St}{nb0 nb:Nat}{a:Act}{w:World}
  (f:Inv n ι0 w0 ι (s.app o.dst e.val e.wr.toList nb0) a w) (d:∀b,fr<=b->b<fr+g->(b=fr->e.wr=none)->ι b=none) (l:∀i,e.wr=some i->e.new=true->i.1=fr) (j:nb0<=nb) (m:g=0\/fr+g<=nb):
  ∃c,(∀b,(b<fr\/fr+g<=b)->c b=ι b)/\Inv n ι0 w0 c (s.app o.dst v wr nb) a w:=by
 rcases CN h with h | h
 ·exact O7 h f d l j m
 ·simp only[bP]at h;obtain⟨rfl,rfl,_⟩:=h;exact⟨ι,λ_ _=>rfl,f.setnb j⟩
def KA{α:Type}{E:List Ent}(hE:∀x∈E,gV P x){n fr:Nat}{ι0 ι:Inj}{w0:Base}{s:St}{o:Oper}{a:Act}{w:World}(I:Inv n ι0 w0 ι s a w)
  (A:∀b,fr<=b->b<fr+8->ι b=none) {k:St->List Nat->List (Nat×Blk)->Nat->Option α} {kp:V->St->Option α} {z:α} (h:FU P E n fr o s k kp=some z)
  {next:Act->World->Prop} {Q:Exit->Act->World->Prop}
  (hn:∀s' rd wr g c m w',k s' rd wr g=some z->(∀b,(b<fr\/fr+g<=b)->c b=ι b)->Inv n ι0 w0 c s' m w'->next m w')
  (hp:∀v s' c x m w',kp v s'=some z->VR c v x->Inv n ι0 w0 c s' m w'->Q (.panic [{ v:=x,recovered:=false }]) m w'):
  o.wp P a w next Q:=by
 have S:ι fr=none:=A fr (bi _) (by omega);unfold FU at h;split at h
 ·cases h
 rename_i hd;have M:xF P (Dv E) fr o s k=some z->o.wp P a w next Q:=by
  intro h;unfold xF at h;obtain⟨e,R,L⟩:=N8 I.tmps I.mem S h;split at R;rename_i v wr g u;split at R
  case h_2=>cases R
  rename_i J;simp only[aD]at J;have U:=aR J.2;have G:∀N,e.wr=some N->e.new=true->N.1=fr:=λN Y D=>iJ.new_eq L Y D;refine JF I S hd L (λD N Y=>by
   have:=J.1;unfold roOK at this;rw[Y]at this;simp only[D]at this;exact aR this) λc m w' C g2 d=>?_
  obtain⟨W,k1,k2⟩:=CQ u d (λb Z e2 e3=>by
   by_cases j:b=fr
   ·subst j;rw[g2 (.inr (e3 rfl))];exact S
   ·rw[C b j];exact A b Z (by omega)) G (nb:=nbOf s.nb fr g) (M4 u) (XN s.nb fr g)
  refine hn _ _ _ _ W m w' R (λb X=>?_) k2;rw[k1 b X];by_cases j:b=fr
  ·subst j;refine g2 (ya u (by omega))
  ·exact C b j
 split at h
 ·rename_i cl B;split at h
  ·rename_i g q;split at h
   ·rename_i f cap hg;obtain⟨l,hl,h⟩:=ax h;obtain⟨r,H,h3⟩:=yR hE h;split at H
    ·cases H
    rename_i p;simp only[aD]at p;have F:r.kill=[]:=by simpa using p.2.2
    have U:=aR p.1;obtain⟨O,args,tys⟩:=cl;simp only at q;subst q;refine DL B I (λb Z e2=>A b Z (by omega)) hd hg hl p.2.1 (by rw[F];rfl) (h3 _ λ_ _=>rfl) (λi c m w' C d=>?_) (λi c x w' C d=>?_)
    ·rw[i]at H;rw[F]at C d;exact hn _ _ _ _ c m w' H (λb J=>C b rfl J) d
    ·rw[i]at H;rw[F]at d;exact hp _ _ c x a w' H C d
   ·cases h
  ·exact M h
 ·rename_i x B;split at h
  ·rename_i t v hx;have T:=bL I.tmps hx;have hv':=T;simp only[VR]at T;obtain⟨y,h6,_⟩:=T;unfold Oper.wp;have K:(execOp a.eval o).run P w=.halt (.panic (.iface t y)) w:=by
    simp only[execOp,B,h6,Instr.panic,ay,run_goPanic,Result.andThen_halt]
   rw[K];exact hp _ _ ι _ a w h (h6▸hv') I
  ·cases h
 ·exact M h
def TR.again{ι:Inj}{T:List (Nat×Option V)}{E:Array Value}(F:TR ι T E){d:Nat}{v:V}(G:look T d=some (some v)):TR ι ((d,some v)::T) E:=by
 intro t u C;rw[bh]at C;split at C
 ·rename_i e;subst e;simp only[aw]at C;subst C;exact F d v G
 ·exact F t u C
def Inv.again{n:Nat}{ι0 ι:Inj}{w0:Base}{s:St}{a:Act}{w:World}(h:Inv n ι0 w0 ι s a w){d:Nat}{v:V}(C:look s.T d=some (some v)):
  Inv n ι0 w0 ι { s with T:=(d,some v)::s.T } a w:=
 ⟨h.size,h.defers,h.tmps.again C,h.mem,h.ext,h.new,h.fr,h.low,h.fz,h.gl⟩
def uL{ops:List Oper}{j d:Nat}(h:gtmp ops j=some d)(a:Array Value):
  yielded ops.toArray a j=match a[d]? with | some (.bool b)=>some b | _=>none:=by
 unfold gtmp at h;split at h
 ·rename_i o c;have:(ops.toArray[j]?).bind (·.dst)=some d:=by simp[c,h]
  unfold yielded;rw[this];rfl
 ·cases h
def Og{α:Type}{n:Nat}{ι0 ι:Inj}{w0:Base}{ops:List Oper}{o:Oper}{s:St}{a:Act}{w:World}(f:Inv n ι0 w0 ι s a w){k:Bool->St->Option α}{z:α}
  (h:zN ops o s k=some z):∃c s',k c s'=some z/\Inv n ι0 w0 ι s' a w/\Region.wanted o (yielded ops.toArray a.tmps)=c/\(∀t,look s'.T t=look s.T t)/\s'.H=s.H/\s'.nb=s.nb:=by
 unfold zN at h;split at h
 ·rename_i g;exact⟨true,s,h,f,by simp[Region.wanted,g],λ_=>rfl,rfl,rfl⟩
 ·rename_i j c g;split at h
  case h_2=>cases h
  rename_i d m;have hy:=uL m a.tmps;have again:∀x,look s.T d=some (some (.b x))->∀t,look ((d,some (V.b x))::s.T) t=look s.T t:=by
   intro x hx t;rw[bh];split
   ·rename_i e;subst e;exact hx.symm
   ·rfl
  split at h
  ·rename_i x hx;obtain⟨y,l,i⟩:=f.tmps d _ hx;simp only[VR]at i;subst i;rw[l]at hy;cases x
   ·exact⟨!c,_,h,f.again hx,by cases c<;>simp[Region.wanted,g,hy],again _ hx,rfl,rfl⟩
   ·exact⟨c,_,h,f.again hx,by cases c<;>simp[Region.wanted,g,hy],again _ hx,rfl,rfl⟩
  ·rename_i hx;obtain⟨y,l,i⟩:=f.tmps d _ hx;simp only[VR]at i;obtain⟨p,rfl,_⟩:=i;rw[l]at hy;exact⟨false,s,h,f,by simp[Region.wanted,g,hy],λ_=>rfl,rfl,rfl⟩
  ·cases h
def RP(ι:Inj):VR ι (.tp []) undef:=by
 simp only[VR];exact⟨#[],rfl,by simp[VRs]⟩
def Inv.skip{n:Nat}{ι0 ι:Inj}{w0:Base}{s:St}{a:Act}{w:World}(h:Inv n ι0 w0 ι s a w){d:Option Nat}(E:xn n d=true):
  Inv n ι0 w0 ι (s.app d (some (.tp [])) [] s.nb) (a.put d undef) w:=
 ⟨by rw[o9];exact h.size,by rw[kJ];exact h.defers,h.tmps.app h.size E (λu C=>by cases C;exact RP ι),h.mem,h.ext,h.new,h.fr,h.low,h.fz,h.gl⟩
def Inv.fresh{n:Nat}{ι0 ι:Inj}{w0:Base}{s:St}{a:Act}{w:World}(h:Inv n ι0 w0 ι s a w):∀b,s.nb<=b->ι b=none:=by
 intro b C;cases hi:ι b with
 | none=>rfl
 | some r=>have:=h.mem.low b r hi;omega
end Go.Abs
