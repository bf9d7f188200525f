
import Derived.Test.YtjkmipianfkncaaGreatDoorAbsI
set_option linter.unusedSimpArgs false
set_option linter.unusedVariables false
set_option linter.defProp false
namespace Go.Abs
variable {P:Program}
def lR(P:Program)(f:Nat):Prop:=∀(args:Array Value) (w:World),(callFunc f args).run P w=.ok (.enter f args) w
def RetR(ι:Inj)(r:CR):Ending->Prop
 | .returned x=>r.pan=false/\VR ι r.val x
 | .panicked a=>r.pan=true/\∃x,a=[{ v:=x,recovered:=false }]/\VR ι r.val x
 | .outgrown=>False
def um(wr:List (Nat×Blk))(ι:Inj):Inj:=λb=>if wr.any (λx=>Nat.beq x.1 b)then ι b else none
def Gj(P:Program)(f:Nat)(args:List V)(H:List (Nat×Blk))(fr:Nat)(r:CR):Prop:=
 ∀(ι:Inj) (nb:Nat) (w:World) (c:Array Value),WR ι H nb w->GL (um r.wr ι) w->(∀x∈r.wr,∀q,ι x.1=some (some q)->q.fz=false)->(∀b,fr<=b->b<fr+r.grow->ι b=none)->VRs ι args c.toList->
  Calls P f c w λe w'=>∃a:Inj,(∀b,isIn r.kill b=false->(b<fr\/fr+r.grow<=b)->a b=ι b)/\
   (∀b q,isIn r.kill b=true->a b=some (some q)->(∃d,ι b=some (some d)/\d.r=q.r)\/w.heap.size<=q.r)/\(∀b q,fr<=b->b<fr+r.grow->a b=some (some q)->w.heap.size<=q.r)/\(∀b q,a b=some (some q)->q.fz=true->ι b=some (some q))/\
   WR a (r.wr++zI r.kill H) (max nb (fr+r.grow)) w'/\Fr (um r.wr ι) w w'/\RetR a r e
mutual
def VR.kill{ι G:Inj}{K:List Nat}(h:∀b,isIn K b=false->∀q,ι b=some q->G b=some q):∀(v:V) (x:Value),VR ι v x->VR G (V.kill K v) x
 | .b _,_,hx | .i _ _,_,hx | .s _,_,hx | .pn,_,hx | .sn,_,hx | .nf,_,hx | .ni,_,hx | .ai _ _ _,_,hx | .unk,_,hx=>by simpa only[V.kill,VR]using hx
 | .p c o,x,hx=>by
  simp only[VR]at hx;obtain⟨q,C,rfl⟩:=hx;simp only[V.kill];cases hc:isIn K c with
  | true=>simp[VR,Value.cells,Value.oneCell']
  | false=>simp only[af,VR];exact⟨q,h c hc _ C,rfl⟩
 | .mp c,x,hx=>by
  simp only[VR]at hx;obtain⟨q,C,rfl⟩:=hx;simp only[V.kill];cases hc:isIn K c with
  | true=>simp[VR,Value.cells,Value.oneCell']
  | false=>simp only[af,VR];exact⟨q,h c hc _ C,rfl⟩
 | .pr z c j o,x,hx=>by
  simp only[VR]at hx;obtain⟨q,C,rfl⟩:=hx;simp only[V.kill];cases hc:isIn K c with
  | true=>simp[VR,Value.cells,Value.oneCell']
  | false=>simp only[af,VR];exact⟨q,h c hc _ C,rfl⟩
 | .sl c o n m,x,hx=>by
  simp only[VR]at hx;obtain⟨q,cp,C,E,O,rfl⟩:=hx;simp only[V.kill];cases hc:isIn K c with
  | true=>simp[VR,Value.cells,Value.oneCell']
  | false=>simp only[af,VR];exact⟨q,cp,h c hc _ C,E,O,rfl⟩
 | .ws c,x,hx=>by
  simp only[VR]at hx;simp only[V.kill];cases hc:isIn K c with
  | true=>rcases hx with⟨q,C,rfl⟩ | ⟨C,F,rfl⟩<;>simp[VR,Value.cells,Value.oneCell']
  | false=>
   simp only[af,VR];rcases hx with⟨q,C,rfl⟩ | ⟨C,F,rfl⟩
   ·exact .inl ⟨q,h c hc _ C,rfl⟩
   ·exact .inr ⟨h c hc _ C,F,rfl⟩
 | .rs z c j n _,x,hx=>by
  simp only[VR]at hx;simp only[V.kill];cases hc:isIn K c with
  | true=>rcases hx with⟨q,cp,o,C,E,O,rfl⟩ | ⟨C,E,F,rfl⟩<;>simp[VR,Value.cells,Value.oneCell']
  | false=>
   simp only[af,VR];rcases hx with⟨q,cp,o,C,E,O,rfl⟩ | ⟨C,E,F,rfl⟩
   ·exact .inl ⟨q,cp,o,h c hc _ C,E,O,rfl⟩
   ·exact .inr ⟨h c hc _ C,E,F,rfl⟩
 | .fn f cap,x,hx=>by
  simp only[V.kill,VR]at hx ⊢;obtain⟨J,C,E⟩:=hx;exact⟨J,C,VRs.kill h _ _ E⟩
 | .it t v,x,hx=>by
  simp only[V.kill,VR]at hx ⊢;obtain⟨y,C,E⟩:=hx;exact⟨y,C,VR.kill h _ _ E⟩
 | .ag l,x,hx=>by
  simp only[V.kill,VR]at hx ⊢;obtain⟨J,C,E⟩:=hx;exact⟨J,C,VRs.kill h _ _ E⟩
 | .tp l,x,hx=>by
  simp only[V.kill,VR]at hx ⊢;obtain⟨J,C,E⟩:=hx;exact⟨J,C,VRs.kill h _ _ E⟩
def VRs.kill{ι C:Inj}{K:List Nat}(h:∀b,isIn K b=false->∀q,ι b=some q->C b=some q):∀(l:List V) (E:List Value),VRs ι l E->VRs C (V.kills K l) E
 | [],_,hx=>by simpa[V.kills,VRs]using hx
 | v::l,E,hx=>by
  simp only[V.kills,VRs]at hx ⊢;obtain⟨y,ys,G,F,J⟩:=hx;exact⟨y,ys,G,VR.kill h _ _ F,VRs.kill h _ _ J⟩
end
def BR.kill{ι E:Inj}{K:List Nat}(h:∀b,isIn K b=false->∀q,ι b=some q->E b=some q){q:Rf}:∀{blk:Blk} {o:Obj},BR ι q blk o->BR E q (blk.kill K) o
 | .dead,_,_=>trivial
 | .rows t l,o,C=>C
 | .cells l,o,C=>by
  obtain⟨G,e,fr,J,F,O⟩:=C;exact⟨G,e,fr,J,VRs.kill h _ _ F,O⟩
 | .ints k n l,o,C=>C
 | .iter s pos,o,C=>C
 | .mp k l,o,C=>C
def uj(K:List Nat):∀(T:List (Nat×Option V)) (t:Nat),look (uF K T) t=(look T t).map (Option.map (V.kill K))
 | [],t=>rfl
 | (u,none)::T,t=>by
  simp only[uF,aR,uj K T];split<;>rfl
 | (u,some v)::T,t=>by
  simp only[uF,aR,uj K T];split<;>rfl
def ud(K:List Nat):∀(H:List (Nat×Blk)) (b:Nat),look (zI K H) b=(look H b).map (Blk.kill K)
 | [],t=>rfl
 | (u,v)::T,t=>by
  simp only[zI,aR,ud K T];split<;>rfl
def TR.kill{ι C:Inj}{K:List Nat}(h:∀b,isIn K b=false->∀q,ι b=some q->C b=some q){T:List (Nat×Option V)}{G:Array Value}(Q:TR ι T G):TR C (uF K T) G:=by
 intro t v E;rw[uj]at E;cases F:look T t with
 | none=>simp[F]at E
 | some o=>
  cases o with
  | none=>simp[F]at E
  | some u=>
   simp only[F,eO,ar]at E;subst E;obtain⟨x,O,J⟩:=Q t u F;exact⟨x,O,VR.kill h _ _ J⟩
mutual
def V.kill_nil:∀v:V,V.kill [] v=v
 | .b _ | .i _ _ | .s _ | .pn | .sn | .nf | .ni | .ai _ _ _ | .unk | .p _ _ | .pr _ _ _ _ | .sl _ _ _ _ | .ws _ | .rs _ _ _ _ _ | .mp _=>rfl
 | .fn f l | .ag l | .tp l=>by simp only[V.kill,V.kills_nil l]
 | .it t v=>by simp only[V.kill,V.kill_nil v]
def V.kills_nil:∀l:List V,V.kills [] l=l
 | []=>rfl
 | v::l=>by simp only[V.kills,V.kill_nil v,V.kills_nil l]
end
def sL:∀H:List (Nat×Blk),zI [] H=H
 | []=>rfl
 | (b,x)::H=>by
  simp only[zI,sL H];cases x<;>simp only[Blk.kill,V.kills_nil]
def vS:∀T:List (Nat×Option V),uF [] T=T
 | []=>rfl
 | (b,none)::T=>by simp only[uF,vS T]
 | (b,some x)::T=>by simp only[uF,vS T,V.kill_nil]
def St.kill_eq(K:List Nat)(s:St):s.kill K={ T:=uF K s.T,H:=zI K s.H,nb:=s.nb,lo:=s.lo,ro:=s.ro,rb:=s.rb }:=by
 cases K with
 | nil=>simp only[St.kill,vS,sL]
 | cons b K=>rfl
def V1(P:Program)(f:Nat)(args:List V)(r:CR):Prop:=
 r.pan=false/\r.wr=[]/\r.grow=0/\r.kill=[]/\∀(ι:Inj) (w:World) (a:Array Value),VRs ι args a.toList->∃x,(callFunc f a).run P w=.ok (.value x) w/\VR ι r.val x
def GoOK(P:Program)(f:Nat)(args:List V)(H:List (Nat×Blk))(fr:Nat)(r:CR):Prop:=(lR P f/\Gj P f args H fr r)\/V1 P f args r
def fK(P:Program)(x:Ent):Prop:=
 ∀(α:Type) (args:List V) (H:List (Nat×Blk)) (fr:Nat) (k:CR->Option α) (z:α),x.e α args H fr k=some z->
  ∃r,k r=some z/\∀a,(∀b∈r.rd,look a b=look H b)->GoOK P x.f args a fr r
def u0{α:Type}{f:Nat}{args:List V}{H:List (Nat×Blk)}{fr:Nat}{k:CR->Option α}{z:α}:∀{E:List Ent},(∀x∈E,fK P x)->HA α f args H fr k E=some z->
  ∃r,k r=some z/\∀d,(∀b∈r.rd,look d b=look H b)->GoOK P f args d fr r
 | [],_,h=>by simp[HA]at h
 | x::E,c,h=>by
  simp only[HA]at h;cases a:Nat.beq x.f f with
  | true=>
   rw[a]at h;have e:=bD a;subst e;exact c x (by simp) α args H fr k z h
  | false=>
   rw[a]at h;exact u0 (λy hy=>c y (gW _ hy)) h
def ExR(ι:Inj):Ex->Exit->Prop
 | .normal,e=>e=.normal
 | .exit id,e=>e=.exit id
 | .ret,e=>e=.ret
 | .pan v,e=>∃x,e=.panic [{ v:=x,recovered:=false }]/\VR ι v x
def Post(n:Nat)(ι0:Inj)(w0:Base)(b:Ex->St->Prop):Exit->Act->World->Prop:=
 λe a w=>∃ex s ι,ExR ι ex e/\Inv n ι0 w0 ι s a w/\b ex s
def SemC(P:Program)(n:Nat)(c:Code)(s:St)(b:Ex->St->Prop):Prop:=
 ∀(ι0:Inj) (w0:Base) (ι:Inj) (a:Act) (w:World),Inv n ι0 w0 ι s a w->c.wp P (Post n ι0 w0 b) a w
def jv(P:Program)(n:Nat)(L:List Sub):AC->Prop
 | .seq a b | .cond _ a b=>jv P n L a/\jv P n L b
 | .block _ a | .scope a | .loop a=>jv P n L a
 | .sub m c=>∀(α:Type) (s:St) (k:Ex->St->Option α) (z:α),Hy α m s k L=some z->SemC P n c.code s λex s'=>k ex s'=some z
 | _=>True
def Fr.trans{ι0 O:Inj}{w0 w w':World}(h:Fr ι0 w0 w)(U:∀b q,O b=some (some q)->(∃G,ι0 b=some (some G)/\G.r=q.r)\/w0.heap.size<=q.r)(E:Fr O w w'):Fr ι0 w0 w':=by
 refine⟨E.os.trans h.os,E.tape.trans h.tape,E.output.trans h.output,pt h.size E.size,λk F C=>?_⟩;rw[E.blk k (pK F h.size) ?_,h.blk k F C];intro b q W;rcases U b q W with⟨G,J,Q⟩ | J
 ·rw[<-Q];exact C b G J
 ·omega
def mq(a:Act)(d:Option Nat)(v:Value):(a.put d v).tmps.size=a.tmps.size:=by
 cases d<;>simp[Act.put]
def i6(a:Act)(d:Option Nat)(v:Value):(a.put d v).defers=a.defers:=by
 cases d<;>rfl
def TR.app{ι:Inj}{s:St}{a:Act}{n:Nat}{d:Option Nat}{v:Option V}{x:Value}{wr:List (Nat×Blk)}{nb:Nat}(C:TR ι s.T a.tmps)(hs:a.tmps.size=n)(hd:tZ n d=true)
  (E:∀u,v=some u->VR ι u x):TR ι (s.app d v wr nb).T (a.put d x).tmps:=by
 cases d with
 | none=>exact C
 | some d=>exact C.put (by rw[hs];exact aG hd) E
def Inv.drawn{n:Nat}{ι0 ι:Inj}{w0:Base}{s:St}{a:Act}{w:World}(h:Inv n ι0 w0 ι s a w)(m:Nat):Inv n ι0 w0 ι s a { w with drawn:=m }:=
 ⟨h.size,h.defers,h.tmps,h.mem.draws m,h.ext,h.new,h.fr.draws m,h.low,h.fz,h.gl⟩
def Gl {n fr:Nat} {ι0 ι:Inj} {w0:Base} {s:St} {o:Oper} {a:Act} {w:World} {e:Eff} (f:Inv n ι0 w0 ι s a w) (K:ι fr=none) (hd:tZ n o.dst=true)
  (h:gj P ι fr o a w e) (m:e.new=false->∀G,e.wr=some G->s.ro<=G.1) {next:Act->World->Prop} {Q:Exit->Act->World->Prop}
  (D:∀g H w',(∀b,b≠fr->g b=ι b)->(e.new=false\/e.wr=none->g fr=ι fr)->
   Inv n ι0 w0 g (s.app o.dst e.val e.wr.toList (if e.new=true/\e.wr≠none then max s.nb (fr+1) else s.nb)) H w'->next H w'):
  o.wp P a w next Q:=by
 have k:∀{x:Next} {w':World} {g:Inj},(execOp a.eval o).run P w=.ok x w'->NextR g e.val x->(∀y,(∀u,e.val=some u->VR g u y)->next (a.put o.dst y) w')->o.wp P a w next Q:=by
  intro x w' g C hx hy;unfold Oper.wp;rw [C];cases hx with
  | skip A=>exact hy _ (λu I=>by rw [A] at I;cases I)
  | value x A=>exact hy _ A
 unfold gj at h;split at h
 ·rename_i l;obtain ⟨x,v,z⟩:=h;refine k v z λy hy=>D ι _ _ (λ_ _=>rfl) (λ_=>rfl) ?_;rw [l];simp only [ne_eq,ub,and_false,aC];exact ⟨by rw [mq];exact f.size,by rw [i6];exact f.defers,f.tmps.app f.size hd hy,f.mem,f.ext,f.new,f.fr,f.low,f.fz,f.gl⟩
 ·rename_i b blk l;split at h
  ·rename_i i;obtain ⟨r,v,L⟩:=h;have t:r.fz=false:=by
    cases hc:r.fz with
    | false=>rfl
    | true=>have:=f.fz b r v hc;have:=m i _ l;simp only at this;omega
   obtain ⟨ob,x,z,B,E⟩:=L t;refine k z E λy hy=>D ι _ _ (λ_ _=>rfl) (λ_=>rfl) ?_;rw [l,i];simp only [bs,xc,aC];refine ⟨by rw [mq];exact f.size,by rw [i6];exact f.defers,f.tmps.app f.size hd hy,f.mem.write v t B,f.ext,f.new,?_,f.low,f.fz,f.gl⟩;exact f.fr.write ((f.new b r v).imp (λ⟨M,h,C⟩=>⟨b,M,A3 h (m i _ l),C⟩) id) _
  ·rename_i i;obtain ⟨rfl,d,q,ob,x,z,J,F,B,E⟩:=h;have j:=oL (r:=some q) K;refine k z E λy hy=>D (upd ι b (some q)) _ _ (λc hc=>by simp [upd,hc]) (λhc=>by rw [i,l] at hc;simp at hc) ?_;rw [l,i];simp only [ne_eq,reduceCtorEq,EK,and_self,aH]
   refine ⟨by rw [mq];exact f.size,by rw [i6];exact f.defers,(f.tmps.mono j).app f.size hd hy,(f.mem.draws d).alloc K (by simp only [St.app];omega) (by simp only [St.app];omega) J B,λc q hc=>(f.ext c q hc).imp (j _ _) id,λc q hc=>?_,(f.fr.draws d).alloc ob,f.low,λc p hc hp=>by
    unfold upd at hc;split at hc
    ·simp only [ar] at hc;subst hc;rw [F] at hp;cases hp
    ·exact f.fz c p hc hp,f.gl⟩
   unfold upd at hc;split at hc
   ·simp only [ar] at hc;subst hc;exact .inr (by rw [J];exact f.fr.size)
   ·exact f.new c q hc
def Inv.phantom'{n:Nat}{ι0 ι:Inj}{w0:Base}{s:St}{a:Act}{w:World}(E:Inv n ι0 w0 ι s a w){g:Nat}(hf:ι g=none){nb:Nat}(U:s.nb<=nb)(Y:g<nb)(tr:List Lf):
  Inv n ι0 w0 (upd ι g none) { T:=s.T,H:=(g,.rows tr [])::s.H,nb:=nb,lo:=s.lo,ro:=s.ro,rb:=s.rb } a w:=by
 have G:=oL (r:=none) hf;have F:∀b,b≠g->upd ι g none b=ι b:=λb J=>by simp[upd,J]
 have C:∀b q,upd ι g none b=some (some q)->ι b=some (some q):=by
  intro b q h;by_cases J:b=g
  ·subst J;rw[db]at h;cases h
  ·rwa[F b J]at h
 refine⟨E.size,E.defers,E.tmps.mono G,⟨λb b' q W Z X=>E.mem.inj b b' q W (C _ _ Z) (C _ _ X),λb q e=>?_,λb q e=>E.mem.dom b q (C _ _ e),λb y O hd=>?_⟩,
  λb q e=>(E.ext b q e).imp (G _ _) id,λb q e=>E.new b q (C _ _ e),E.fr,E.low,λb q e=>E.fz b q (C _ _ e),E.gl⟩
 ·by_cases J:b=g
  ·subst J;exact Y
  ·rw[F b J]at e;exact pK (E.mem.low b q e) U
 ·rw[aR]at O;split at O
  ·rename_i e;subst e;simp only[ar]at O;subst O;exact .inr ⟨db _ _ _,tr,rfl⟩
  ·rename_i Q;exact(E.mem.blk b y O hd).map (F b (λe=>Q e.symm)) (λ_ _=>rfl) (λ_ _ h=>BR.mono G h) (λ_ h=>h)
def Inv.setnb{n:Nat}{ι0 ι:Inj}{w0:Base}{s:St}{a:Act}{w:World}(C:Inv n ι0 w0 ι s a w){nb:Nat}(h:s.nb<=nb):
  Inv n ι0 w0 ι { T:=s.T,H:=s.H,nb:=nb,lo:=s.lo,ro:=s.ro,rb:=s.rb } a w:=
 ⟨C.size,C.defers,C.tmps,⟨C.mem.inj,λb q e=>pK (C.mem.low b q e) h,C.mem.dom,C.mem.blk⟩,C.ext,C.new,C.fr,C.low,C.fz,C.gl⟩
def OA{ι:Inj}{g:Nat}(a:ι g=some none){x:Value}(h:VR ι .sn x):VR ι (.ws g) x:=by
 simp only[VR]at h ⊢;exact .inr ⟨a,none,h⟩
def yW:∀(ns:List (Nat×List Lf)) (g:Nat) (l:List V) (d:List (Nat×Blk)) (t:List V) (H:List (Nat×Blk)),nilL g ns l d=(t,H)->∃m,H=m++d/\
  ∀{n:Nat} {ι0 ι:Inj} {w0:Base} {s:St} {a:Act} {w:World},Inv n ι0 w0 ι s a w->(∀b,g<=b->b<g+m.length->ι b=none)->∀nb,s.nb<=nb->(m=[]\/g+m.length<=nb)->
   ∃c,(∀b,(b<g\/g+m.length<=b)->c b=ι b)/\(∀b q,ι b=some q->c b=some q)/\(∀o,VRs c l o->VRs c t o)/\
    Inv n ι0 w0 c { T:=s.T,H:=m++s.H,nb:=nb,lo:=s.lo,ro:=s.ro,rb:=s.rb } a w
 | [],g,l,d,t,H,h=>by
  simp only[nilL,bi]at h;obtain⟨rfl,rfl⟩:=h;exact⟨[],rfl,λ{n ι0 ι w0 s a w} A f nb B y=>⟨ι,λ_ _=>rfl,λ_ _ h=>h,λ_ h=>h,A.setnb B⟩⟩
 | (i,tr)::r,g,l,d,t,H,h=>by
  simp only[nilL]at h;split at h
  ·rename_i hi;obtain⟨v,rfl,G⟩:=yW r (g+1) _ _ _ _ h;refine⟨v++[(g,.rows tr [])],by simp,λ{n ι0 ι w0 s a w} A f nb B y=>?_⟩;have p:(v++[((g,.rows tr []):Nat×Blk)]).length=v.length+1:=by simp
   rw[p]at f y ⊢;have y:g+(v.length+1)<=nb:=y.resolve_left (by simp);have C:=f g (aQ _) (by omega);have u:=oL (r:=none) C
   obtain⟨c,k1,k2,F,k4⟩:=G (A.phantom' C B (by omega) tr) (λb J I=>by
    have:upd ι g none b=ι b:=by simp[upd,show b≠g by omega]
    rw[this];exact f b (by omega) (by omega)) nb (aQ _) (.inr (by omega))
   refine⟨c,λb D=>?_,λb q D=>k2 b q (u b q D),λo hx=>F o ?_,by simpa using k4⟩
   ·rw[k1 b (by omega)];simp[upd,show b≠g by omega]
   ·obtain⟨x,k,z⟩:=hx.get hi;have:=hx.set i (OA (g:=g) (k2 _ _ (db _ _ _)) z);rwa[show o.set i x=o from by
     apply CO;intro j;rw[List.getElem?_set];split
     ·rename_i e;subst e;split
      ·exact k.symm
      ·rename_i E;rw[gC (by omega)]at k;cases k
     ·rfl]at this
  ·exact yW r g l d t H h
def PS{α:Type}(l m:List (Nat×α))(n:Nat):look (l++m) n=(look l n).or (look m n):=by
 induction l with
 | nil=>rfl
 | cons x l ih=>
  obtain⟨k,v⟩:=x;rw[dq,aR,aR,ih];split<;>rfl
def Inv.reH{n:Nat}{ι0 ι:Inj}{w0:Base}{T:List (Nat×Option V)}{A B:List (Nat×Blk)}{b nb lo ro rb:Nat}{l J:List V}{a:Act}{w:World}
  (E:Inv n ι0 w0 ι ⟨T,A++(b,.cells l)::B,nb,lo,ro,rb⟩ a w) (h:∀O,VRs ι l O->VRs ι J O):Inv n ι0 w0 ι ⟨T,A++(b,.cells J)::B,nb,lo,ro,rb⟩ a w:=by
 refine⟨E.size,E.defers,E.tmps,⟨E.mem.inj,E.mem.low,E.mem.dom,λc y hc hd=>?_⟩,E.ext,E.new,E.fr,E.low,E.fz,E.gl⟩;have C:=E.mem.blk c;rw[PS,aR]at hc C;cases G:look A c with
 | some z=>rw[G]at hc C;exact C y hc hd
 | none=>
  rw[G]at hc C;simp only[Ez]at hc C;split at hc
  ·rename_i e;rw[ae e]at C;simp only[ar]at hc;subst hc;rcases C _ rfl (by simp)with⟨q,o,W,F,X⟩ | ⟨_,t,F⟩
   ·obtain⟨U,Y,fr,g1,Q,Z⟩:=X;exact .inl ⟨q,o,W,F,U,Y,fr,g1,h _ Q,Z⟩
   ·cases F
  ·rename_i e;rw[ab e]at C;exact C y hc hd
def Inv.reT{n:Nat}{ι0 ι:Inj}{w0:Base}{s:St}{wr:List (Nat×Blk)}{d:Option Nat}{nb:Nat}{v G:V}{a:Act}{w:World}
  (E:Inv n ι0 w0 ι (s.app d (some v) wr nb) a w) (h:∀x,VR ι v x->VR ι G x):Inv n ι0 w0 ι (s.app d (some G) wr nb) a w:=by
 refine⟨E.size,E.defers,?_,E.mem,E.ext,E.new,E.fr,E.low,E.fz,E.gl⟩;have J:=E.tmps;cases d with
 | none=>exact J
 | some d=>
  intro t u F;have C:=J t;simp only[St.app,aR]at F C;split at F
  ·rename_i e;rw[ae e]at C;simp only[ar]at F;subst F;obtain⟨x,Q,O⟩:=C v rfl;exact⟨x,Q,h x O⟩
  ·rename_i e;rw[ab e]at C;exact C u F
def PT{P:Program}{t:TypeId}{g:Nat}{v o:V}{f:List (Nat×Blk)}(h:nilV P t g v=(o,f)){n:Nat}{ι0 ι:Inj}{w0:Base}{s:St}{d:Option Nat}{nb0:Nat}{a:Act}{w:World}
  (p:Inv n ι0 w0 ι (s.app d (some v) [] nb0) a w) (k:∀b,g<=b->b<g+f.length->ι b=none) {nb:Nat} (q:nb0<=nb) (m:f=[]\/g+f.length<=nb):
  ∃c,(∀b,(b<g\/g+f.length<=b)->c b=ι b)/\Inv n ι0 w0 c (s.app d (some o) f nb) a w:=by
 have j:(v,([]:List (Nat×Blk)))=(o,f)->∃c,(∀b,(b<g\/g+f.length<=b)->c b=ι b)/\Inv n ι0 w0 c (s.app d (some o) f nb) a w:=by
  intro e;simp only[bi]at e;obtain⟨rfl,rfl⟩:=e;exact⟨ι,λ_ _=>rfl,p.setnb q⟩
 unfold nilV at h;split at h
 ·split at h
  ·rename_i i tr r I;simp only[bi]at h;obtain⟨rfl,rfl⟩:=h;have C:=k g (aQ _) (by simp);have m:g+1<=nb:=by simpa using m
   have:=p.phantom' C q m tr;exact⟨upd ι g none,λb D=>by simp only[Ea]at D;simp[upd,show b≠g by omega],Inv.reT (s:=s) (wr:=[(g,.rows tr [])]) (v:=.sn) this λx hx=>OA (db _ _ _) hx⟩
  ·exact j h
 ·rename_i l;split at h;rename_i H z B;simp only[bi]at h;obtain⟨rfl,rfl⟩:=h;obtain⟨G,e,F⟩:=yW _ _ _ _ _ _ B;rw[nW]at e;subst e;obtain⟨c,k1,k2,E,k4⟩:=F p k nb q m;refine⟨c,k1,Inv.reT (s:=s) (wr:=z) (v:=.ag l) k4 λx hx=>?_⟩;simp only[VR]at hx ⊢;obtain⟨A,u,y⟩:=hx;exact⟨A,u,E _ y⟩
 ·exact j h
def QS(nb fr:Nat):∀g,g=0\/fr+g<=nbOf nb fr g
 | 0=>.inl rfl
 | _+1=>.inr (Nat.le_max_right _ _)
def Ej{P:Program}{fr:Nat}{o:Oper}{e:Eff}{v:Option V}{wr:List (Nat×Blk)}{g:Nat}(h:yw P fr o e=(v,wr,g))(c:g=0):e.new=false\/e.wr=none:=by
 unfold yw at h;split at h
 ·rename_i a;exact .inr a
 ·split at h
  ·rename_i b;exact .inl b
  ·split at h
   ·split at h;simp only[bi]at h;omega
   ·simp only[bi]at h;omega
def gj.new_eq{ι:Inj}{f:Nat}{o:Oper}{a:Act}{w:World}{e:Eff}(h:gj P ι f o a w e){C:Nat×Blk}(E:e.wr=some C)(F:e.new=true):C.1=f:=by
 unfold gj at h;rw[E]at h;simp only[F]at h;exact h.1
def Kz{P:Program}{fr:Nat}{o:Oper}{e:Eff}{v:Option V}{wr:List (Nat×Blk)}{g:Nat}(h:yw P fr o e=(v,wr,g)){n:Nat}{ι0 ι:Inj}{w0:Base}{s:St}{nb0 nb:Nat}{a:Act}{w:World}
  (j:Inv n ι0 w0 ι (s.app o.dst e.val e.wr.toList nb0) a w) (r:∀b,fr<=b->b<fr+g->(b=fr->e.wr=none)->ι b=none) (I:∀m,e.wr=some m->e.new=true->m.1=fr) (y:nb0<=nb) (D:g=0\/fr+g<=nb):
  ∃f,(∀b,(b<fr\/fr+g<=b)->f b=ι b)/\Inv n ι0 w0 f (s.app o.dst v wr nb) a w:=by
 have i:(e.val,e.wr.toList)=(v,wr)->∃f,(∀b,(b<fr\/fr+g<=b)->f b=ι b)/\Inv n ι0 w0 f (s.app o.dst v wr nb) a w:=by
  intro e;simp only[bi]at e;obtain⟨rfl,rfl⟩:=e;exact⟨ι,λ_ _=>rfl,j.setnb y⟩
 unfold yw at h;split at h
 ·rename_i k;rw[k]at j i;split at h
  ·rename_i t u N F;split at h;rename_i T H L;simp only[bi]at h;obtain⟨rfl,rfl,rfl⟩:=h;rw[F]at j;obtain⟨f,k1,k2⟩:=PT L (d:=o.dst) (s:=s) j (λb x E=>r b x E λ_=>k) y (D.imp (λh=>xw h) id);exact⟨f,k1,k2⟩
  ·simp only[bi]at h;exact i (by simp[h.1,h.2.1])
 ·rename_i m k;rw[k]at i;split at h
  ·simp only[bi]at h;exact i (by simp[h.1,h.2.1])
  ·rename_i z;split at h
   ·rename_i t l S p;split at h;rename_i R H G;simp only[bi]at h;obtain⟨rfl,rfl,rfl⟩:=h;obtain⟨Q,C,K⟩:=yW _ _ _ _ _ _ G;rw[nW]at C;subst C;rw[k]at j;have x:=I m k z;obtain⟨b,blk⟩:=m;simp only at p x;subst p x;obtain⟨f,k1,k2,J,k4⟩:=K j (λc M O=>r c (by omega) (by omega) (λq=>by omega)) nb y (D.elim (λh=>by omega) λh=>.inr (by omega));refine⟨f,λc hc=>k1 c (by omega),?_⟩;have:=Inv.reH (A:=H) (B:=s.H) (b:=b) k4 J;simpa[St.app]using this
   ·simp only[bi]at h;exact i (by simp[h.1,h.2.1])
def ON{ι:Inj}{T:List (Nat×Option V)}{a:Act}(c:TR ι T a.tmps){g:Operand}{f:Nat}{cap:List V}(h:opd T g=some (.fn f cap)):
  ∃b:Array Value,a.eval g=fnV f b/\VRs ι cap b.toList:=by
 have:=bp c h;simpa only[VR]using this
def yg{wr:List (Nat×Blk)}{ι:Inj}{b:Nat}{r:Option Rf}(h:um wr ι b=some r):∃x∈wr,x.1=b:=by
 unfold um at h;split at h
 ·rename_i a;obtain⟨x,hx,c⟩:=sS.1 a;exact⟨x,hx,bD c⟩
 ·cases h
def CW(wr:List (Nat×Blk))(ι:Inj):∀b r,um wr ι b=some r->ι b=some r:=by
 intro b r h;unfold um at h;split at h
 ·exact h
 ·cases h
def M3{K f:Nat}{ι:Inj}{o:Oper}{a:Act}{g:Operand}{args:Array Operand}{d:Array TypeId}{c:Array Value}{cap l:List V}(h:o.op=.call ⟨.value g,args,d⟩)
  (b:a.eval g=fnW K f c) (e:VRs ι cap c.toList) (i:VRs ι l (args.toList.map a.eval)) (w:World):
  ∃as:Array Value,VRs ι (fnAW K f l cap) as.toList/\(execOp a.eval o).run P w=(callFunc (fnFW K f) as).run P w:=by
 unfold fnAW fnFW;unfold fnW at b;cases j:Nat.blt f K<;>rw[j]at b<;>simp only at b ⊢
 ·refine⟨c++args.map a.eval,by simpa using e.append i,?_⟩;simp only[execOp,h,resolve,b,Deferred.ofValue,Array.append_empty,aw,aA,ay,invoke]
 ·refine⟨args.map a.eval++c,by simpa using i.append e,?_⟩;simp only[execOp,h,resolve,b,Deferred.ofValue,Array.empty_append,aw,aA,ay,invoke]
def zw{n fr:Nat}{ι0 ι:Inj}{w0:Base}{s:St}{o:Oper}{a:Act}{w:World}{g:Operand}{args:Array Operand}{R:Array TypeId}{f:Nat}{cap l:List V}{r:CR}
  (ho:o.op=.call ⟨.value g,args,R⟩) (d:Inv n ι0 w0 ι s a w) (J:∀b,fr<=b->b<fr+r.grow->ι b=none) (hd:tZ n o.dst=true)
  (hg:opd s.T g=some (.fn f cap)) (hl:opds (opd s.T) args.toList=some l) (A:r.wr.all (λx=>Nat.ble s.ro x.1)=true)
  (D:r.kill.all (λb=>Nat.ble s.rb b)=true) (hc:GoOK P (fnF f) (fnA f l cap) s.H fr r)
  {next:Act->World->Prop} {Q:Exit->Act->World->Prop}
  (hn:r.pan=false->∀i a' w',(∀b,isIn r.kill b=false->(b<fr\/fr+r.grow<=b)->i b=ι b)->Inv n ι0 w0 i ((s.kill r.kill).app o.dst (some r.val) r.wr (max s.nb (fr+r.grow))) a' w'->next a' w')
  (hp:r.pan=true->∀i x w',VR i r.val x->Inv n ι0 w0 i ((s.kill r.kill).app none none r.wr (max s.nb (fr+r.grow))) a w'->Q (.panic [{ v:=x,recovered:=false }]) a w'):
  o.wp P a w next Q:=by
 obtain⟨cs,X,h2⟩:=ON d.tmps hg;have h3:=wW d.tmps hl;obtain⟨as,K,t⟩:=M3 (P:=P) ho (show a.eval g=fnW 1000000 f cs from X) h2 h3 w;rcases hc with⟨hE,hc⟩ | ⟨a1,a2,a3,a4,I⟩
 case inr=>
  obtain⟨x,B,hx⟩:=I ι w as K;have k:(execOp a.eval o).run P w=.ok (.value x) w:=by rw[t];exact B
  unfold Oper.wp;rw[k];refine hn a1 ι _ _ (λ_ _ _=>rfl) ?_;rw[a2,a3,a4,ct];refine⟨by rw[mq];exact d.size,by rw[i6];exact d.defers,TR.app (s:=s) d.tmps d.size hd (λu W=>by cases W;exact hx),?_,d.ext,d.new,d.fr,d.low,d.fz,d.gl⟩;exact⟨d.mem.inj,λb q E=>pK (d.mem.low b q E) (Eg _ _),d.mem.dom,d.mem.blk⟩
 have k:(execOp a.eval o).run P w=.ok (.enter (fnF f) as) w:=by rw[t];exact hE _ _
 unfold Oper.wp;rw[k];simp only[Oper.upon];refine(hc ι s.nb w as d.mem (d.glHere λb q j=>by
  obtain⟨x,hx,rfl⟩:=yg j;exact⟨CW r.wr ι x.1 _ j,aG (cq.1 A x hx)⟩) (λx hx q E=>by
  cases hc:q.fz with
  | false=>rfl
  | true=>have:=d.fz x.1 q E hc;have:=aG (cq.1 A x hx);omega) (λb M hb2=>J b M (by omega)) K).mono λe w' h=>?_
 obtain⟨i,g1,g0,g2,g6,g3,g4,N⟩:=h;have G:∀b q,i b=some (some q)->q.fz=true->b<s.ro:=λb q j E=>d.fz b q (g6 b q j E) E;have L:∀b,isIn r.kill b=true->s.rb<=b:=by
  intro b j;obtain⟨c,O,U⟩:=sS.1 j;rw[bD U];exact aG (cq.1 D c O)
 have y:∀b,isIn r.kill b=false->∀q,ι b=some q->i b=some q:=by
  intro b C q j;rw[g1 b C ?_];exact j;rcases aF b fr with h | h
  ·exact .inl h
  ·rcases aF b (fr+r.grow)with h' | h'
   ·have:=J b h (by omega);rw[this]at j;cases j
   ·exact .inr h'
 have m:∀b q,ι0 b=some q->i b=some q\/s.rb<=b:=by
  intro b q j;rcases d.ext b q j with h | h
  ·cases C:isIn r.kill b with
   | true=>exact .inr (L b C)
   | false=>exact .inl (y b C q h)
  ·exact .inr h
 have p:∀b q,i b=some (some q)->(∃F,ι0 b=some (some F)/\F.r=q.r)\/w0.w.heap.size<=q.r:=by
  intro b q j;cases C:isIn r.kill b with
  | true=>
   rcases g0 b q C j with⟨F,h6,h7⟩ | h6
   ·rw[<-h7];exact d.new b F h6
   ·exact .inr (pt d.fr.size h6)
  | false=>
   by_cases hin:b<fr\/fr+r.grow<=b
   ·rw[g1 b C hin]at j;exact d.new b q j
   ·have:=g2 b q (by omega) (by omega) j;exact .inr (pt d.fr.size this)
 have z:Fr (roI ι0 s.ro) w0.w w':=d.fr.trans (λb q j=>by
  obtain⟨x,hx,rfl⟩:=yg j;have X:=aG (cq.1 A x hx);exact(d.new x.1 q (CW r.wr ι x.1 _ j)).imp (λ⟨F,h,hr⟩=>⟨F,A3 h X,hr⟩) id) g4
 have hT:=d.tmps.kill y;rw[St.kill_eq]at hn hp;cases e with
 | returned x=>
  obtain⟨S,Z⟩:=N;refine hn S i _ _ g1 ⟨by rw[mq];exact d.size,by rw[i6];exact d.defers,TR.app (s:={ T:=uF r.kill s.T,H:=zI r.kill s.H,nb:=s.nb,lo:=s.lo,ro:=s.ro,rb:=s.rb }) hT d.size hd (λu W=>by cases W;exact Z),g3,m,p,z,d.low,G,d.gl⟩
 | panicked Y=>
  obtain⟨S,x,rfl,Z⟩:=N;exact hp S i x _ Z ⟨d.size,d.defers,hT,g3,m,p,z,d.low,G,d.gl⟩
 | outgrown=>exact N.elim
def yN{c:Bool}{P:Program}{fr:Nat}{o:Oper}{e:Eff}{v:Option V}{wr:List (Nat×Blk)}{g:Nat}(h:uf c P fr o e=(v,wr,g)):yw P fr o e=(v,wr,g)\/(e.val,e.wr.toList,QN e)=(v,wr,g):=by
 unfold uf at h;split at h;rename_i f b d a;split at h
 ·exact .inl (a.trans h)
 ·split at h
  ·exact .inr h
  ·exact .inl (a.trans h)
def us{d:Bool}{P:Program}{fr:Nat}{o:Oper}{e:Eff}{v:Option V}{wr:List (Nat×Blk)}{g:Nat}(h:uf d P fr o e=(v,wr,g))(a:g=0):e.new=false\/e.wr=none:=by
 rcases yN h with h | h
 ·exact Ej h a
 ·simp only[bi]at h;have h:=h.2.2;rw[a]at h;unfold QN at h;split at h
  ·rename_i c;exact .inr c
  ·left;cases b:e.new with
   | false=>rfl
   | true=>rw[b]at h;cases h
def HT{a:Bool}{P:Program}{fr nb:Nat}{o:Oper}{e:Eff}{v:Option V}{wr:List (Nat×Blk)}{g:Nat}(h:uf a P fr o e=(v,wr,g)):
  (if e.new=true/\e.wr≠none then max nb (fr+1)else nb)<=nbOf nb fr g:=by
 cases g with
 | zero=>
  have:=us h rfl;rw[ab (λhc=>by rcases this with h | h;rw[h]at hc;cases hc.1;exact hc.2 h)];exact aQ _
 | succ g=>
  simp only[nbOf];split<;>omega
def xO{l:Bool}{P:Program}{fr:Nat}{o:Oper}{e:Eff}{v:Option V}{wr:List (Nat×Blk)}{g:Nat}(h:uf l P fr o e=(v,wr,g)){n:Nat}{ι0 ι:Inj}{w0:Base}{s:St}{nb0 nb:Nat}{a:Act}{w:World}
  (f:Inv n ι0 w0 ι (s.app o.dst e.val e.wr.toList nb0) a w) (d:∀b,fr<=b->b<fr+g->(b=fr->e.wr=none)->ι b=none) (m:∀i,e.wr=some i->e.new=true->i.1=fr) (j:nb0<=nb) (k:g=0\/fr+g<=nb):
  ∃c,(∀b,(b<fr\/fr+g<=b)->c b=ι b)/\Inv n ι0 w0 c (s.app o.dst v wr nb) a w:=by
 rcases yN h with h | h
 ·exact Kz h f d m j k
 ·simp only[bi]at h;obtain⟨rfl,rfl,_⟩:=h;exact⟨ι,λ_ _=>rfl,f.setnb j⟩
def FY{α:Type}{E:List Ent}(hE:∀x∈E,fK P x){n fr:Nat}{ι0 ι:Inj}{w0:Base}{s:St}{o:Oper}{a:Act}{w:World}(H:Inv n ι0 w0 ι s a w)
  (u:∀b,fr<=b->b<fr+8->ι b=none) {k:St->List Nat->List (Nat×Blk)->Nat->Option α} {kp:V->St->Option α} {z:α} (h:CG P E n fr o s k kp=some z)
  {next:Act->World->Prop} {Q:Exit->Act->World->Prop}
  (hn:∀s' rd wr g c m w',k s' rd wr g=some z->(∀b,(b<fr\/fr+g<=b)->c b=ι b)->Inv n ι0 w0 c s' m w'->next m w')
  (hp:∀v s' c x m w',kp v s'=some z->VR c v x->Inv n ι0 w0 c s' m w'->Q (.panic [{ v:=x,recovered:=false }]) m w'):
  o.wp P a w next Q:=by
 have X:ι fr=none:=u fr (aQ _) (by omega);unfold CG at h;split at h
 ·cases h
 rename_i hd;have L:tJ P (zO E) fr o s k=some z->o.wp P a w next Q:=by
  intro h;unfold tJ at h;obtain⟨e,O,K⟩:=Jy H.tmps H.mem X h;split at O;rename_i v wr g F;split at O
  case h_2=>cases O
  rename_i M;simp only[aB]at M;have S:=aG M.2;have A:∀N,e.wr=some N->e.new=true->N.1=fr:=λN Y G=>gj.new_eq K Y G;refine Gl H X hd K (λG N Y=>by
   have:=M.1;unfold roOK at this;rw[Y]at this;simp only[G]at this;exact aG this) λc m w' D g2 d=>?_
  obtain⟨U,k1,k2⟩:=xO F d (λb W e2 e3=>by
   by_cases j:b=fr
   ·subst j;rw[g2 (.inr (e3 rfl))];exact X
   ·rw[D b j];exact u b W (by omega)) A (nb:=nbOf s.nb fr g) (HT F) (QS s.nb fr g)
  refine hn _ _ _ _ U m w' O (λb T=>?_) k2;rw[k1 b T];by_cases j:b=fr
  ·subst j;refine g2 (us F (by omega))
  ·exact D b j
 split at h
 ·rename_i cl B;split at h
  ·rename_i g q;split at h
   ·rename_i f cap hg;obtain⟨l,hl,h⟩:=av h;obtain⟨r,I,h3⟩:=u0 hE h;split at I
    ·cases I
    rename_i p;simp only[aB]at p;have C:r.kill=[]:=by simpa using p.2.2
    have S:=aG p.1;obtain⟨R,args,tys⟩:=cl;simp only at q;subst q;refine zw B H (λb W e2=>u b W (by omega)) hd hg hl p.2.1 (by rw[C];rfl) (h3 _ λ_ _=>rfl) (λi c m w' D d=>?_) (λi c x w' D d=>?_)
    ·rw[i]at I;rw[C]at D d;exact hn _ _ _ _ c m w' I (λb M=>D b rfl M) d
    ·rw[i]at I;rw[C]at d;exact hp _ _ c x a w' I D d
   ·cases h
  ·exact L h
 ·rename_i x B;split at h
  ·rename_i t v hx;have Z:=bp H.tmps hx;have hv':=Z;simp only[VR]at Z;obtain⟨y,h6,_⟩:=Z;unfold Oper.wp;have J:(execOp a.eval o).run P w=.halt (.panic (.iface t y)) w:=by
    simp only[execOp,B,h6,Instr.panic,aw,run_goPanic,Result.andThen_halt]
   rw[J];exact hp _ _ ι _ a w h (h6▸hv') H
  ·cases h
 ·exact L h
def TR.again{ι:Inj}{T:List (Nat×Option V)}{E:Array Value}(F:TR ι T E){d:Nat}{v:V}(G:look T d=some (some v)):TR ι ((d,some v)::T) E:=by
 intro t u C;rw[aR]at C;split at C
 ·rename_i e;subst e;simp only[ar]at C;subst C;exact F d v G
 ·exact F t u C
def Inv.again{n:Nat}{ι0 ι:Inj}{w0:Base}{s:St}{a:Act}{w:World}(h:Inv n ι0 w0 ι s a w){d:Nat}{v:V}(C:look s.T d=some (some v)):
  Inv n ι0 w0 ι { s with T:=(d,some v)::s.T } a w:=
 ⟨h.size,h.defers,h.tmps.again C,h.mem,h.ext,h.new,h.fr,h.low,h.fz,h.gl⟩
def qD{ops:List Oper}{j d:Nat}(h:gtmp ops j=some d)(a:Array Value):
  yielded ops.toArray a j=match a[d]? with | some (.bool b)=>some b | _=>none:=by
 unfold gtmp at h;split at h
 ·rename_i o c;have:(ops.toArray[j]?).bind (·.dst)=some d:=by simp[c,h]
  unfold yielded;rw[this];rfl
 ·cases h
def JY{α:Type}{n:Nat}{ι0 ι:Inj}{w0:Base}{ops:List Oper}{o:Oper}{s:St}{a:Act}{w:World}(f:Inv n ι0 w0 ι s a w){k:Bool->St->Option α}{z:α}
  (h:vB ops o s k=some z):∃c s',k c s'=some z/\Inv n ι0 w0 ι s' a w/\Region.wanted o (yielded ops.toArray a.tmps)=c/\(∀t,look s'.T t=look s.T t)/\s'.H=s.H/\s'.nb=s.nb:=by
 unfold vB at h;split at h
 ·rename_i i;exact⟨true,s,h,f,by simp[Region.wanted,i],λ_=>rfl,rfl,rfl⟩
 ·rename_i j c i;split at h
  case h_2=>cases h
  rename_i d hd;have hy:=qD hd a.tmps;have again:∀x,look s.T d=some (some (.b x))->∀t,look ((d,some (V.b x))::s.T) t=look s.T t:=by
   intro x hx t;rw[aR];split
   ·rename_i e;subst e;exact hx.symm
   ·rfl
  split at h
  ·rename_i x hx;obtain⟨y,l,g⟩:=f.tmps d _ hx;simp only[VR]at g;subst g;rw[l]at hy;cases x
   ·exact⟨!c,_,h,f.again hx,by cases c<;>simp[Region.wanted,i,hy],again _ hx,rfl,rfl⟩
   ·exact⟨c,_,h,f.again hx,by cases c<;>simp[Region.wanted,i,hy],again _ hx,rfl,rfl⟩
  ·rename_i hx;obtain⟨y,l,g⟩:=f.tmps d _ hx;simp only[VR]at g;obtain⟨m,rfl,_⟩:=g;rw[l]at hy;exact⟨false,s,h,f,by simp[Region.wanted,i,hy],λ_=>rfl,rfl,rfl⟩
  ·cases h
def Ol(ι:Inj):VR ι (.tp []) undef:=by
 simp only[VR];exact⟨#[],rfl,by simp[VRs]⟩
def Inv.skip{n:Nat}{ι0 ι:Inj}{w0:Base}{s:St}{a:Act}{w:World}(h:Inv n ι0 w0 ι s a w){d:Option Nat}(hd:tZ n d=true):
  Inv n ι0 w0 ι (s.app d (some (.tp [])) [] s.nb) (a.put d undef) w:=
 ⟨by rw[mq];exact h.size,by rw[i6];exact h.defers,h.tmps.app h.size hd (λu C=>by cases C;exact Ol ι),h.mem,h.ext,h.new,h.fr,h.low,h.fz,h.gl⟩
def Inv.fresh{n:Nat}{ι0 ι:Inj}{w0:Base}{s:St}{a:Act}{w:World}(h:Inv n ι0 w0 ι s a w):∀b,s.nb<=b->ι b=none:=by
 intro b C;cases hi:ι b with
 | none=>rfl
 | some r=>have:=h.mem.low b r hi;omega
end Go.Abs
