
import Derived.Test.YtadejcglcffgbaaGreatDoorAbsI
set_option linter.unusedSimpArgs false
set_option linter.unusedVariables false
set_option linter.defProp false
namespace Go.Abs
variable {P:Program}
def lB(P:Program)(f:Nat):Prop:=∀(args:Array Value) (w:World),(callFunc f args).run P w=.ok (.enter f args) w
def RetR(ι:Inj)(r:CR):Ending->Prop
 | .returned x=>r.pan=false/\VR ι r.val x
 | .panicked a=>r.pan=true/\∃x,a=[{ v:=x,recovered:=false }]/\VR ι r.val x
 | .outgrown=>False
def vL(wr:List (Nat×Blk))(ι:Inj):Inj:=λb=>if wr.any (λx=>Nat.beq x.1 b)then ι b else none
def HW(P:Program)(f:Nat)(args:List V)(H:List (Nat×Blk))(fr:Nat)(r:CR):Prop:=
 ∀(ι:Inj) (nb:Nat) (w:World) (d:Array Value),WR ι H nb w->GL (vL r.wr ι) w->(∀x∈r.wr,∀q,ι x.1=some (some q)->q.fz=false)->(∀b,fr<=b->b<fr+r.grow->ι b=none)->VRs ι args d.toList->
  Calls P f d w λe w'=>∃a:Inj,(∀b,isIn r.kill b=false->(b<fr\/fr+r.grow<=b)->a b=ι b)/\
   (∀b q,isIn r.kill b=true->a b=some (some q)->(∃c,ι b=some (some c)/\c.r=q.r)\/w.heap.size<=q.r)/\(∀b q,fr<=b->b<fr+r.grow->a b=some (some q)->w.heap.size<=q.r)/\(∀b q,a b=some (some q)->q.fz=true->ι b=some (some q))/\
   WR a (r.wr++BE r.kill H) (max nb (fr+r.grow)) w'/\Fr (vL r.wr ι) w w'/\RetR a r e
mutual
def VR.kill{ι G:Inj}{K:List Nat}(h:∀b,isIn K b=false->∀q,ι b=some q->G b=some q):∀(v:V) (x:Value),VR ι v x->VR G (V.kill K v) x
 | .b _,_,hx | .i _ _,_,hx | .s _,_,hx | .pn,_,hx | .sn,_,hx | .nf,_,hx | .ni,_,hx | .ai _ _ _,_,hx | .unk,_,hx=>by simpa only[V.kill,VR]using hx
 | .p c o,x,hx=>by
  simp only[VR]at hx;obtain⟨q,C,rfl⟩:=hx;simp only[V.kill];cases hc:isIn K c with
  | true=>simp[VR,Value.cells,Value.oneCell']
  | false=>simp only[af,VR];exact⟨q,h c hc _ C,rfl⟩
 | .mp c,x,hx=>by
  simp only[VR]at hx;obtain⟨q,C,rfl⟩:=hx;simp only[V.kill];cases hc:isIn K c with
  | true=>simp[VR,Value.cells,Value.oneCell']
  | false=>simp only[af,VR];exact⟨q,h c hc _ C,rfl⟩
 | .pr z c j o,x,hx=>by
  simp only[VR]at hx;obtain⟨q,C,rfl⟩:=hx;simp only[V.kill];cases hc:isIn K c with
  | true=>simp[VR,Value.cells,Value.oneCell']
  | false=>simp only[af,VR];exact⟨q,h c hc _ C,rfl⟩
 | .sl c o n m,x,hx=>by
  simp only[VR]at hx;obtain⟨q,cp,C,E,O,rfl⟩:=hx;simp only[V.kill];cases hc:isIn K c with
  | true=>simp[VR,Value.cells,Value.oneCell']
  | false=>simp only[af,VR];exact⟨q,cp,h c hc _ C,E,O,rfl⟩
 | .ws c,x,hx=>by
  simp only[VR]at hx;simp only[V.kill];cases hc:isIn K c with
  | true=>rcases hx with⟨q,C,rfl⟩ | ⟨C,F,rfl⟩<;>simp[VR,Value.cells,Value.oneCell']
  | false=>
   simp only[af,VR];rcases hx with⟨q,C,rfl⟩ | ⟨C,F,rfl⟩
   ·exact .inl ⟨q,h c hc _ C,rfl⟩
   ·exact .inr ⟨h c hc _ C,F,rfl⟩
 | .rs z c j n _,x,hx=>by
  simp only[VR]at hx;simp only[V.kill];cases hc:isIn K c with
  | true=>rcases hx with⟨q,cp,o,C,E,O,rfl⟩ | ⟨C,E,F,rfl⟩<;>simp[VR,Value.cells,Value.oneCell']
  | false=>
   simp only[af,VR];rcases hx with⟨q,cp,o,C,E,O,rfl⟩ | ⟨C,E,F,rfl⟩
   ·exact .inl ⟨q,cp,o,h c hc _ C,E,O,rfl⟩
   ·exact .inr ⟨h c hc _ C,E,F,rfl⟩
 | .fn f cap,x,hx=>by
  simp only[V.kill,VR]at hx ⊢;obtain⟨J,C,E⟩:=hx;exact⟨J,C,VRs.kill h _ _ E⟩
 | .it t v,x,hx=>by
  simp only[V.kill,VR]at hx ⊢;obtain⟨y,C,E⟩:=hx;exact⟨y,C,VR.kill h _ _ E⟩
 | .ag l,x,hx=>by
  simp only[V.kill,VR]at hx ⊢;obtain⟨J,C,E⟩:=hx;exact⟨J,C,VRs.kill h _ _ E⟩
 | .tp l,x,hx=>by
  simp only[V.kill,VR]at hx ⊢;obtain⟨J,C,E⟩:=hx;exact⟨J,C,VRs.kill h _ _ E⟩
def VRs.kill{ι C:Inj}{K:List Nat}(h:∀b,isIn K b=false->∀q,ι b=some q->C b=some q):∀(l:List V) (E:List Value),VRs ι l E->VRs C (V.kills K l) E
 | [],_,hx=>by simpa[V.kills,VRs]using hx
 | v::l,E,hx=>by
  simp only[V.kills,VRs]at hx ⊢;obtain⟨y,G,J,F,O⟩:=hx;exact⟨y,G,J,VR.kill h _ _ F,VRs.kill h _ _ O⟩
end
def BR.kill{ι E:Inj}{K:List Nat}(h:∀b,isIn K b=false->∀q,ι b=some q->E b=some q){q:Rf}:∀{blk:Blk} {o:Obj},BR ι q blk o->BR E q (blk.kill K) o
 | .dead,_,_=>trivial
 | .rows t l,o,C=>C
 | .cells l,o,C=>by
  obtain⟨O,e,fr,G,F,J⟩:=C;exact⟨O,e,fr,G,VRs.kill h _ _ F,J⟩
 | .ints k n l,o,C=>C
 | .iter s pos,o,C=>C
 | .mp k l,o,C=>C
def vn(K:List Nat):∀(T:List (Nat×Option V)) (t:Nat),look (vQ K T) t=(look T t).map (Option.map (V.kill K))
 | [],t=>rfl
 | (u,none)::T,t=>by
  simp only[vQ,aS,vn K T];split<;>rfl
 | (u,some v)::T,t=>by
  simp only[vQ,aS,vn K T];split<;>rfl
def vt(K:List Nat):∀(H:List (Nat×Blk)) (b:Nat),look (BE K H) b=(look H b).map (Blk.kill K)
 | [],t=>rfl
 | (u,v)::T,t=>by
  simp only[BE,aS,vt K T];split<;>rfl
def TR.kill{ι E:Inj}{K:List Nat}(h:∀b,isIn K b=false->∀q,ι b=some q->E b=some q){T:List (Nat×Option V)}{G:Array Value}(Q:TR ι T G):TR E (vQ K T) G:=by
 intro t v C;rw[vn]at C;cases F:look T t with
 | none=>simp[F]at C
 | some o=>
  cases o with
  | none=>simp[F]at C
  | some u=>
   simp only[F,fh,aq]at C;subst C;obtain⟨x,O,J⟩:=Q t u F;exact⟨x,O,VR.kill h _ _ J⟩
mutual
def V.kill_nil:∀v:V,V.kill [] v=v
 | .b _ | .i _ _ | .s _ | .pn | .sn | .nf | .ni | .ai _ _ _ | .unk | .p _ _ | .pr _ _ _ _ | .sl _ _ _ _ | .ws _ | .rs _ _ _ _ _ | .mp _=>rfl
 | .fn f l | .ag l | .tp l=>by simp only[V.kill,V.kills_nil l]
 | .it t v=>by simp only[V.kill,V.kill_nil v]
def V.kills_nil:∀l:List V,V.kills [] l=l
 | []=>rfl
 | v::l=>by simp only[V.kills,V.kill_nil v,V.kills_nil l]
end
def uf:∀H:List (Nat×Blk),BE [] H=H
 | []=>rfl
 | (b,x)::H=>by
  simp only[BE,uf H];cases x<;>simp only[Blk.kill,V.kills_nil]
def xn:∀T:List (Nat×Option V),vQ [] T=T
 | []=>rfl
 | (b,none)::T=>by simp only[vQ,xn T]
 | (b,some x)::T=>by simp only[vQ,xn T,V.kill_nil]
def St.kill_eq(K:List Nat)(s:St):s.kill K={ T:=vQ K s.T,H:=BE K s.H,nb:=s.nb,lo:=s.lo,ro:=s.ro,rb:=s.rb }:=by
 cases K with
 | nil=>simp only[St.kill,xn,uf]
 | cons b K=>rfl
def YJ(P:Program)(f:Nat)(args:List V)(r:CR):Prop:=
 r.pan=false/\r.wr=[]/\r.grow=0/\r.kill=[]/\∀(ι:Inj) (w:World) (a:Array Value),VRs ι args a.toList->∃x,(callFunc f a).run P w=.ok (.value x) w/\VR ι r.val x
def GoOK(P:Program)(f:Nat)(args:List V)(H:List (Nat×Blk))(fr:Nat)(r:CR):Prop:=(lB P f/\HW P f args H fr r)\/YJ P f args r
def fC(P:Program)(x:Ent):Prop:=
 ∀(α:Type) (args:List V) (H:List (Nat×Blk)) (fr:Nat) (k:CR->Option α) (z:α),x.e α args H fr k=some z->
  ∃r,k r=some z/\∀a,(∀b∈r.rd,look a b=look H b)->GoOK P x.f args a fr r
def wy{α:Type}{f:Nat}{args:List V}{H:List (Nat×Blk)}{fr:Nat}{k:CR->Option α}{z:α}:∀{E:List Ent},(∀x∈E,fC P x)->JZ α f args H fr k E=some z->
  ∃r,k r=some z/\∀d,(∀b∈r.rd,look d b=look H b)->GoOK P f args d fr r
 | [],_,h=>by simp[JZ]at h
 | x::E,c,h=>by
  simp only[JZ]at h;cases a:Nat.beq x.f f with
  | true=>
   rw[a]at h;have e:=bB a;subst e;exact c x (by simp) α args H fr k z h
  | false=>
   rw[a]at h;exact wy (λy hy=>c y (fD _ hy)) h
def ExR(ι:Inj):Ex->Exit->Prop
 | .normal,e=>e=.normal
 | .exit id,e=>e=.exit id
 | .ret,e=>e=.ret
 | .pan v,e=>∃x,e=.panic [{ v:=x,recovered:=false }]/\VR ι v x
def Post(n:Nat)(ι0:Inj)(w0:Base)(b:Ex->St->Prop):Exit->Act->World->Prop:=
 λe a w=>∃ex s ι,ExR ι ex e/\Inv n ι0 w0 ι s a w/\b ex s
def SemC(P:Program)(n:Nat)(c:Code)(s:St)(b:Ex->St->Prop):Prop:=
 ∀(ι0:Inj) (w0:Base) (ι:Inj) (a:Act) (w:World),Inv n ι0 w0 ι s a w->c.wp P (Post n ι0 w0 b) a w
def jW(P:Program)(n:Nat)(L:List Sub):AC->Prop
 | .seq a b | .cond _ a b=>jW P n L a/\jW P n L b
 | .block _ a | .scope a | .loop a=>jW P n L a
 | .sub m c=>∀(α:Type) (s:St) (k:Ex->St->Option α) (z:α),Kx α m s k L=some z->SemC P n c.code s λex s'=>k ex s'=some z
 | _=>True
def Fr.trans{ι0 J:Inj}{w0 w w':World}(h:Fr ι0 w0 w)(W:∀b q,J b=some (some q)->(∃G,ι0 b=some (some G)/\G.r=q.r)\/w0.heap.size<=q.r)(E:Fr J w w'):Fr ι0 w0 w':=by
 refine⟨E.os.trans h.os,E.tape.trans h.tape,E.output.trans h.output,qZ h.size E.size,λk F C=>?_⟩;rw[E.blk k (oQ F h.size) ?_,h.blk k F C];intro b q Q;rcases W b q Q with⟨G,O,U⟩ | O
 ·rw[<-U];exact C b G O
 ·omega
def nB(a:Act)(d:Option Nat)(v:Value):(a.put d v).tmps.size=a.tmps.size:=by
 cases d<;>simp[Act.put]
def jB(a:Act)(d:Option Nat)(v:Value):(a.put d v).defers=a.defers:=by
 cases d<;>rfl
def TR.app{ι:Inj}{s:St}{a:Act}{n:Nat}{d:Option Nat}{v:Option V}{x:Value}{wr:List (Nat×Blk)}{nb:Nat}(C:TR ι s.T a.tmps)(hs:a.tmps.size=n)(E:vi n d=true)
  (F:∀u,v=some u->VR ι u x):TR ι (s.app d v wr nb).T (a.put d x).tmps:=by
 cases d with
 | none=>exact C
 | some d=>exact C.put (by rw[hs];exact aI E) F
def Inv.drawn{n:Nat}{ι0 ι:Inj}{w0:Base}{s:St}{a:Act}{w:World}(h:Inv n ι0 w0 ι s a w)(m:Nat):Inv n ι0 w0 ι s a { w with drawn:=m }:=
 ⟨h.size,h.defers,h.tmps,h.mem.draws m,h.ext,h.new,h.fr.draws m,h.low,h.fz,h.gl⟩
def Ho {n fr:Nat} {ι0 ι:Inj} {w0:Base} {s:St} {o:Oper} {a:Act} {w:World} {e:Eff} (f:Inv n ι0 w0 ι s a w) (G:ι fr=none) (z:vi n o.dst=true)
  (h:gR P ι fr o a w e) (l:e.new=false->∀J,e.wr=some J->s.ro<=J.1) {next:Act->World->Prop} {Q:Exit->Act->World->Prop}
  (B:∀g H w',(∀b,b≠fr->g b=ι b)->(e.new=false\/e.wr=none->g fr=ι fr)->
   Inv n ι0 w0 g (s.app o.dst e.val e.wr.toList (if e.new=true/\e.wr≠none then max s.nb (fr+1) else s.nb)) H w'->next H w'):
  o.wp P a w next Q:=by
 have fin:∀{x:Next} {w':World} {g:Inj},(execOp a.eval o).run P w=.ok x w'->NextR g e.val x->(∀y,(∀u,e.val=some u->VR g u y)->next (a.put o.dst y) w')->o.wp P a w next Q:=by
  intro x w' g D hx hy;unfold Oper.wp;rw [D];cases hx with
  | skip A=>exact hy _ (λu K=>by rw [A] at K;cases K)
  | value x A=>exact hy _ A
 unfold gR at h;split at h
 ·rename_i k;obtain ⟨x,t,m⟩:=h;refine fin t m λy hy=>B ι _ _ (λ_ _=>rfl) (λ_=>rfl) ?_;rw [k];simp only [ne_eq,vg,and_false,aF];exact ⟨by rw [nB];exact f.size,by rw [jB];exact f.defers,f.tmps.app f.size z hy,f.mem,f.ext,f.new,f.fr,f.low,f.fz,f.gl⟩
 ·rename_i b blk k;split at h
  ·rename_i i;obtain ⟨r,t,L⟩:=h;have v:r.fz=false:=by
    cases hc:r.fz with
    | false=>rfl
    | true=>have:=f.fz b r t hc;have:=l i _ k;simp only at this;omega
   obtain ⟨ob,x,m,F,E⟩:=L v;refine fin m E λy hy=>B ι _ _ (λ_ _=>rfl) (λ_=>rfl) ?_;rw [k,i];simp only [bQ,yv,aF];refine ⟨by rw [nB];exact f.size,by rw [jB];exact f.defers,f.tmps.app f.size z hy,f.mem.write t v F,f.ext,f.new,?_,f.low,f.fz,f.gl⟩;exact f.fr.write ((f.new b r t).imp (λ⟨M,h,D⟩=>⟨b,M,Ds h (l i _ k),D⟩) id) _
  ·rename_i i;obtain ⟨rfl,d,q,ob,x,m,I,C,F,E⟩:=h;have j:=qA (r:=some q) G;refine fin m E λy hy=>B (upd ι b (some q)) _ _ (λc hc=>by simp [upd,hc]) (λhc=>by rw [i,k] at hc;simp at hc) ?_;rw [k,i];simp only [ne_eq,reduceCtorEq,FR,and_self,aN]
   refine ⟨by rw [nB];exact f.size,by rw [jB];exact f.defers,(f.tmps.mono j).app f.size z hy,(f.mem.draws d).alloc G (by simp only [St.app];omega) (by simp only [St.app];omega) I F,λc q hc=>(f.ext c q hc).imp (j _ _) id,λc q hc=>?_,(f.fr.draws d).alloc ob,f.low,λc p hc hp=>by
    unfold upd at hc;split at hc
    ·simp only [aq] at hc;subst hc;rw [C] at hp;cases hp
    ·exact f.fz c p hc hp,f.gl⟩
   unfold upd at hc;split at hc
   ·simp only [aq] at hc;subst hc;exact .inr (by rw [I];exact f.fr.size)
   ·exact f.new c q hc
def Inv.phantom'{n:Nat}{ι0 ι:Inj}{w0:Base}{s:St}{a:Act}{w:World}(E:Inv n ι0 w0 ι s a w){g:Nat}(hf:ι g=none){nb:Nat}(Q:s.nb<=nb)(hg:g<nb)(tr:List Lf):
  Inv n ι0 w0 (upd ι g none) { T:=s.T,H:=(g,.rows tr [])::s.H,nb:=nb,lo:=s.lo,ro:=s.ro,rb:=s.rb } a w:=by
 have G:=qA (r:=none) hf;have F:∀b,b≠g->upd ι g none b=ι b:=λb J=>by simp[upd,J]
 have C:∀b q,upd ι g none b=some (some q)->ι b=some (some q):=by
  intro b q h;by_cases J:b=g
  ·subst J;rw[dJ]at h;cases h
  ·rwa[F b J]at h
 refine⟨E.size,E.defers,E.tmps.mono G,⟨λb b' q Z Y X=>E.mem.inj b b' q Z (C _ _ Y) (C _ _ X),λb q e=>?_,λb q e=>E.mem.dom b q (C _ _ e),λb y O W=>?_⟩,
  λb q e=>(E.ext b q e).imp (G _ _) id,λb q e=>E.new b q (C _ _ e),E.fr,E.low,λb q e=>E.fz b q (C _ _ e),E.gl⟩
 ·by_cases J:b=g
  ·subst J;exact hg
  ·rw[F b J]at e;exact oQ (E.mem.low b q e) Q
 ·rw[aS]at O;split at O
  ·rename_i e;subst e;simp only[aq]at O;subst O;exact .inr ⟨dJ _ _ _,tr,rfl⟩
  ·rename_i U;exact(E.mem.blk b y O W).map (F b (λe=>U e.symm)) (λ_ _=>rfl) (λ_ _ h=>BR.mono G h) (λ_ h=>h)
def Inv.setnb{n:Nat}{ι0 ι:Inj}{w0:Base}{s:St}{a:Act}{w:World}(C:Inv n ι0 w0 ι s a w){nb:Nat}(h:s.nb<=nb):
  Inv n ι0 w0 ι { T:=s.T,H:=s.H,nb:=nb,lo:=s.lo,ro:=s.ro,rb:=s.rb } a w:=
 ⟨C.size,C.defers,C.tmps,⟨C.mem.inj,λb q e=>oQ (C.mem.low b q e) h,C.mem.dom,C.mem.blk⟩,C.ext,C.new,C.fr,C.low,C.fz,C.gl⟩
def SN{ι:Inj}{g:Nat}(a:ι g=some none){x:Value}(h:VR ι .sn x):VR ι (.ws g) x:=by
 simp only[VR]at h ⊢;exact .inr ⟨a,none,h⟩
def Bz:∀(ns:List (Nat×List Lf)) (g:Nat) (l:List V) (acc:List (Nat×Blk)) (p:List V) (H:List (Nat×Blk)),nilL g ns l acc=(p,H)->∃m,H=m++acc/\
  ∀{n:Nat} {ι0 ι:Inj} {w0:Base} {s:St} {a:Act} {w:World},Inv n ι0 w0 ι s a w->(∀b,g<=b->b<g+m.length->ι b=none)->∀nb,s.nb<=nb->(m=[]\/g+m.length<=nb)->
   ∃c,(∀b,(b<g\/g+m.length<=b)->c b=ι b)/\(∀b q,ι b=some q->c b=some q)/\(∀k,VRs c l k->VRs c p k)/\
    Inv n ι0 w0 c { T:=s.T,H:=m++s.H,nb:=nb,lo:=s.lo,ro:=s.ro,rb:=s.rb } a w
 | [],g,l,acc,p,H,h=>by
  simp only[nilL,bC]at h;obtain⟨rfl,rfl⟩:=h;exact⟨[],rfl,λ{n ι0 ι w0 s a w} A d nb z v=>⟨ι,λ_ _=>rfl,λ_ _ h=>h,λ_ h=>h,A.setnb z⟩⟩
 | (i,tr)::r,g,l,acc,p,H,h=>by
  simp only[nilL]at h;split at h
  ·rename_i hi;obtain⟨u,rfl,E⟩:=Bz r (g+1) _ _ _ _ h;refine⟨u++[(g,.rows tr [])],by simp,λ{n ι0 ι w0 s a w} A d nb z v=>?_⟩;have t:(u++[((g,.rows tr []):Nat×Blk)]).length=u.length+1:=by simp
   rw[t]at d v ⊢;have v:g+(u.length+1)<=nb:=v.resolve_left (by simp);have C:=d g (aU _) (by omega);have o:=qA (r:=none) C
   obtain⟨c,k1,k2,k3,k4⟩:=E (A.phantom' C z (by omega) tr) (λb G F=>by
    have:upd ι g none b=ι b:=by simp[upd,show b≠g by omega]
    rw[this];exact d b (by omega) (by omega)) nb (aU _) (.inr (by omega))
   refine⟨c,λb B=>?_,λb q B=>k2 b q (o b q B),λk hx=>k3 k ?_,by simpa using k4⟩
   ·rw[k1 b (by omega)];simp[upd,show b≠g by omega]
   ·obtain⟨x,f,y⟩:=hx.get hi;have:=hx.set i (SN (g:=g) (k2 _ _ (dJ _ _ _)) y);rwa[show k.set i x=k from by
     apply AD;intro j;rw[List.getElem?_set];split
     ·rename_i e;subst e;split
      ·exact f.symm
      ·rename_i D;rw[f7 (by omega)]at f;cases f
     ·rfl]at this
  ·exact Bz r g l acc p H h
def Vo{α:Type}(l m:List (Nat×α))(n:Nat):look (l++m) n=(look l n).or (look m n):=by
 induction l with
 | nil=>rfl
 | cons x l ih=>
  obtain⟨k,v⟩:=x;rw[fi,aS,aS,ih];split<;>rfl
def Inv.reH{n:Nat}{ι0 ι:Inj}{w0:Base}{T:List (Nat×Option V)}{A B:List (Nat×Blk)}{b nb lo ro rb:Nat}{l G:List V}{a:Act}{w:World}
  (E:Inv n ι0 w0 ι ⟨T,A++(b,.cells l)::B,nb,lo,ro,rb⟩ a w) (h:∀O,VRs ι l O->VRs ι G O):Inv n ι0 w0 ι ⟨T,A++(b,.cells G)::B,nb,lo,ro,rb⟩ a w:=by
 refine⟨E.size,E.defers,E.tmps,⟨E.mem.inj,E.mem.low,E.mem.dom,λc y hc J=>?_⟩,E.ext,E.new,E.fr,E.low,E.fz,E.gl⟩;have C:=E.mem.blk c;rw[Vo,aS]at hc C;cases Q:look A c with
 | some z=>rw[Q]at hc C;exact C y hc J
 | none=>
  rw[Q]at hc C;simp only[Gq]at hc C;split at hc
  ·rename_i e;rw[ae e]at C;simp only[aq]at hc;subst hc;rcases C _ rfl (by simp)with⟨q,o,W,F,Z⟩ | ⟨_,t,F⟩
   ·obtain⟨cs,e',fr,Y,U,X⟩:=Z;exact .inl ⟨q,o,W,F,cs,e',fr,Y,h _ U,X⟩
   ·cases F
  ·rename_i e;rw[ab e]at C;exact C y hc J
def Inv.reT{n:Nat}{ι0 ι:Inj}{w0:Base}{s:St}{wr:List (Nat×Blk)}{d:Option Nat}{nb:Nat}{v J:V}{a:Act}{w:World}
  (E:Inv n ι0 w0 ι (s.app d (some v) wr nb) a w) (h:∀x,VR ι v x->VR ι J x):Inv n ι0 w0 ι (s.app d (some J) wr nb) a w:=by
 refine⟨E.size,E.defers,?_,E.mem,E.ext,E.new,E.fr,E.low,E.fz,E.gl⟩;have G:=E.tmps;cases d with
 | none=>exact G
 | some d=>
  intro t u F;have C:=G t;simp only[St.app,aS]at F C;split at F
  ·rename_i e;rw[ae e]at C;simp only[aq]at F;subst F;obtain⟨x,Q,O⟩:=C v rfl;exact⟨x,Q,h x O⟩
  ·rename_i e;rw[ab e]at C;exact C u F
def TJ{P:Program}{t:TypeId}{g:Nat}{v o:V}{f:List (Nat×Blk)}(h:nilV P t g v=(o,f)){n:Nat}{ι0 ι:Inj}{w0:Base}{s:St}{d:Option Nat}{nb0:Nat}{a:Act}{w:World}
  (q:Inv n ι0 w0 ι (s.app d (some v) [] nb0) a w) (k:∀b,g<=b->b<g+f.length->ι b=none) {nb:Nat} (p:nb0<=nb) (m:f=[]\/g+f.length<=nb):
  ∃c,(∀b,(b<g\/g+f.length<=b)->c b=ι b)/\Inv n ι0 w0 c (s.app d (some o) f nb) a w:=by
 have j:(v,([]:List (Nat×Blk)))=(o,f)->∃c,(∀b,(b<g\/g+f.length<=b)->c b=ι b)/\Inv n ι0 w0 c (s.app d (some o) f nb) a w:=by
  intro e;simp only[bC]at e;obtain⟨rfl,rfl⟩:=e;exact⟨ι,λ_ _=>rfl,q.setnb p⟩
 unfold nilV at h;split at h
 ·split at h
  ·rename_i i tr r F;simp only[bC]at h;obtain⟨rfl,rfl⟩:=h;have A:=k g (aU _) (by simp);have m:g+1<=nb:=by simpa using m
   have:=q.phantom' A p m tr;exact⟨upd ι g none,λb u=>by simp only[C3]at u;simp[upd,show b≠g by omega],Inv.reT (s:=s) (wr:=[(g,.rows tr [])]) (v:=.sn) this λx hx=>SN (dJ _ _ _) hx⟩
  ·exact j h
 ·rename_i l;split at h;rename_i H B E;simp only[bC]at h;obtain⟨rfl,rfl⟩:=h;obtain⟨G,e,D⟩:=Bz _ _ _ _ _ _ E;rw[lH]at e;subst e;obtain⟨c,k1,k2,k3,k4⟩:=D q k nb p m;refine⟨c,k1,Inv.reT (s:=s) (wr:=B) (v:=.ag l) k4 λx hx=>?_⟩;simp only[VR]at hx ⊢;obtain⟨C,z,y⟩:=hx;exact⟨C,z,k3 _ y⟩
 ·exact j h
def Vm(nb fr:Nat):∀g,g=0\/fr+g<=nbOf nb fr g
 | 0=>.inl rfl
 | _+1=>.inr (Nat.le_max_right _ _)
def Ge{P:Program}{fr:Nat}{o:Oper}{e:Eff}{v:Option V}{wr:List (Nat×Blk)}{g:Nat}(h:Ao P fr o e=(v,wr,g))(c:g=0):e.new=false\/e.wr=none:=by
 unfold Ao at h;split at h
 ·rename_i b;exact .inr b
 ·split at h
  ·rename_i a;exact .inl a
  ·split at h
   ·split at h;simp only[bC]at h;omega
   ·simp only[bC]at h;omega
def gR.new_eq{ι:Inj}{f:Nat}{o:Oper}{a:Act}{w:World}{e:Eff}(h:gR P ι f o a w e){C:Nat×Blk}(F:e.wr=some C)(E:e.new=true):C.1=f:=by
 unfold gR at h;rw[F]at h;simp only[E]at h;exact h.1
def N4{P:Program}{fr:Nat}{o:Oper}{e:Eff}{v:Option V}{wr:List (Nat×Blk)}{g:Nat}(h:Ao P fr o e=(v,wr,g)){n:Nat}{ι0 ι:Inj}{w0:Base}{s:St}{nb0 nb:Nat}{a:Act}{w:World}
  (j:Inv n ι0 w0 ι (s.app o.dst e.val e.wr.toList nb0) a w) (m:∀b,fr<=b->b<fr+g->(b=fr->e.wr=none)->ι b=none) (E:∀r,e.wr=some r->e.new=true->r.1=fr) (z:nb0<=nb) (C:g=0\/fr+g<=nb):
  ∃f,(∀b,(b<fr\/fr+g<=b)->f b=ι b)/\Inv n ι0 w0 f (s.app o.dst v wr nb) a w:=by
 have i:(e.val,e.wr.toList)=(v,wr)->∃f,(∀b,(b<fr\/fr+g<=b)->f b=ι b)/\Inv n ι0 w0 f (s.app o.dst v wr nb) a w:=by
  intro e;simp only[bC]at e;obtain⟨rfl,rfl⟩:=e;exact⟨ι,λ_ _=>rfl,j.setnb z⟩
 unfold Ao at h;split at h
 ·rename_i k;rw[k]at j i;split at h
  ·rename_i t u O K;split at h;rename_i R H I;simp only[bC]at h;obtain⟨rfl,rfl,rfl⟩:=h;rw[K]at j;obtain⟨f,k1,k2⟩:=TJ I (d:=o.dst) (s:=s) j (λb x G=>m b x G λ_=>k) z (C.imp (λh=>sZ h) id);exact⟨f,k1,k2⟩
  ·simp only[bC]at h;exact i (by simp[h.1,h.2.1])
 ·rename_i r k;rw[k]at i;split at h
  ·simp only[bC]at h;exact i (by simp[h.1,h.2.1])
  ·rename_i y;split at h
   ·rename_i t l S p;split at h;rename_i Q H F;simp only[bC]at h;obtain⟨rfl,rfl,rfl⟩:=h;obtain⟨N,D,J⟩:=Bz _ _ _ _ _ _ F;rw[lH]at D;subst D;rw[k]at j;have x:=E r k y;obtain⟨b,blk⟩:=r;simp only at p x;subst p x;obtain⟨f,k1,k2,k3,k4⟩:=J j (λc M L=>m c (by omega) (by omega) (λq=>by omega)) nb z (C.elim (λh=>by omega) λh=>.inr (by omega));refine⟨f,λc hc=>k1 c (by omega),?_⟩;have:=Inv.reH (A:=H) (B:=s.H) (b:=b) k4 k3;simpa[St.app]using this
   ·simp only[bC]at h;exact i (by simp[h.1,h.2.1])
def Sm{ι:Inj}{T:List (Nat×Option V)}{a:Act}(c:TR ι T a.tmps){g:Operand}{f:Nat}{cap:List V}(h:opd T g=some (.fn f cap)):
  ∃b:Array Value,a.eval g=fnV f b/\VRs ι cap b.toList:=by
 have:=bz c h;simpa only[VR]using this
def zU{wr:List (Nat×Blk)}{ι:Inj}{b:Nat}{r:Option Rf}(h:vL wr ι b=some r):∃x∈wr,x.1=b:=by
 unfold vL at h;split at h
 ·rename_i c;obtain⟨x,hx,a⟩:=sX.1 c;exact⟨x,hx,bB a⟩
 ·cases h
def D6(wr:List (Nat×Blk))(ι:Inj):∀b r,vL wr ι b=some r->ι b=some r:=by
 intro b r h;unfold vL at h;split at h
 ·exact h
 ·cases h
def Rw{K f:Nat}{ι:Inj}{o:Oper}{a:Act}{g:Operand}{args:Array Operand}{d:Array TypeId}{c:Array Value}{cap l:List V}(i:o.op=.call ⟨.value g,args,d⟩)
  (b:a.eval g=fnW K f c) (e:VRs ι cap c.toList) (h:VRs ι l (args.toList.map a.eval)) (w:World):
  ∃as:Array Value,VRs ι (fnAW K f l cap) as.toList/\(execOp a.eval o).run P w=(callFunc (fnFW K f) as).run P w:=by
 unfold fnAW fnFW;unfold fnW at b;cases j:Nat.blt f K<;>rw[j]at b<;>simp only at b ⊢
 ·refine⟨c++args.map a.eval,by simpa using e.append h,?_⟩;simp only[execOp,i,resolve,b,Deferred.ofValue,Array.append_empty,az,aD,aA,invoke]
 ·refine⟨args.map a.eval++c,by simpa using h.append e,?_⟩;simp only[execOp,i,resolve,b,Deferred.ofValue,Array.empty_append,az,aD,aA,invoke]
def AN{n fr:Nat}{ι0 ι:Inj}{w0:Base}{s:St}{o:Oper}{a:Act}{w:World}{g:Operand}{args:Array Operand}{U:Array TypeId}{f:Nat}{cap l:List V}{r:CR}
  (ho:o.op=.call ⟨.value g,args,U⟩) (d:Inv n ι0 w0 ι s a w) (I:∀b,fr<=b->b<fr+r.grow->ι b=none) (hd:vi n o.dst=true)
  (hg:opd s.T g=some (.fn f cap)) (hl:opds (opd s.T) args.toList=some l) (A:r.wr.all (λx=>Nat.ble s.ro x.1)=true)
  (C:r.kill.all (λb=>Nat.ble s.rb b)=true) (hc:GoOK P (fnF f) (fnA f l cap) s.H fr r)
  {next:Act->World->Prop} {Q:Exit->Act->World->Prop}
  (O:r.pan=false->∀i a' w',(∀b,isIn r.kill b=false->(b<fr\/fr+r.grow<=b)->i b=ι b)->Inv n ι0 w0 i ((s.kill r.kill).app o.dst (some r.val) r.wr (max s.nb (fr+r.grow))) a' w'->next a' w')
  (hp:r.pan=true->∀i x w',VR i r.val x->Inv n ι0 w0 i ((s.kill r.kill).app none none r.wr (max s.nb (fr+r.grow))) a w'->Q (.panic [{ v:=x,recovered:=false }]) a w'):
  o.wp P a w next Q:=by
 obtain⟨cs,W,h2⟩:=Sm d.tmps hg;have h3:=yb d.tmps hl;obtain⟨as,J,z⟩:=Rw (P:=P) ho (show a.eval g=fnW 1000000 f cs from W) h2 h3 w;rcases hc with⟨hE,hc⟩ | ⟨a1,a2,a3,a4,G⟩
 case inr=>
  obtain⟨x,B,hx⟩:=G ι w as J;have k:(execOp a.eval o).run P w=.ok (.value x) w:=by rw[z];exact B
  unfold Oper.wp;rw[k];refine O a1 ι _ _ (λ_ _ _=>rfl) ?_;rw[a2,a3,a4,dK];refine⟨by rw[nB];exact d.size,by rw[jB];exact d.defers,TR.app (s:=s) d.tmps d.size hd (λu hu=>by cases hu;exact hx),?_,d.ext,d.new,d.fr,d.low,d.fz,d.gl⟩;exact⟨d.mem.inj,λb q F=>oQ (d.mem.low b q F) (Gw _ _),d.mem.dom,d.mem.blk⟩
 have k:(execOp a.eval o).run P w=.ok (.enter (fnF f) as) w:=by rw[z];exact hE _ _
 unfold Oper.wp;rw[k];simp only[Oper.upon];refine(hc ι s.nb w as d.mem (d.glHere λb q j=>by
  obtain⟨x,hx,rfl⟩:=zU j;exact⟨D6 r.wr ι x.1 _ j,aI (bS.1 A x hx)⟩) (λx hx q F=>by
  cases hc:q.fz with
  | false=>rfl
  | true=>have:=d.fz x.1 q F hc;have:=aI (bS.1 A x hx);omega) (λb M hb2=>I b M (by omega)) J).mono λe w' h=>?_
 obtain⟨i,X,g0,g2,g6,g3,g4,g5⟩:=h;have K:∀b q,i b=some (some q)->q.fz=true->b<s.ro:=λb q j F=>d.fz b q (g6 b q j F) F;have L:∀b,isIn r.kill b=true->s.rb<=b:=by
  intro b j;obtain⟨c,hc1,S⟩:=sX.1 j;rw[bB S];exact aI (bS.1 C c hc1)
 have t:∀b,isIn r.kill b=false->∀q,ι b=some q->i b=some q:=by
  intro b D q j;rw[X b D ?_];exact j;rcases aJ b fr with h | h
  ·exact .inl h
  ·rcases aJ b (fr+r.grow)with h' | h'
   ·have:=I b h (by omega);rw[this]at j;cases j
   ·exact .inr h'
 have m:∀b q,ι0 b=some q->i b=some q\/s.rb<=b:=by
  intro b q j;rcases d.ext b q j with h | h
  ·cases D:isIn r.kill b with
   | true=>exact .inr (L b D)
   | false=>exact .inl (t b D q h)
  ·exact .inr h
 have y:∀b q,i b=some (some q)->(∃E,ι0 b=some (some E)/\E.r=q.r)\/w0.w.heap.size<=q.r:=by
  intro b q j;cases D:isIn r.kill b with
  | true=>
   rcases g0 b q D j with⟨E,N,h7⟩ | N
   ·rw[<-h7];exact d.new b E N
   ·exact .inr (qZ d.fr.size N)
  | false=>
   by_cases R:b<fr\/fr+r.grow<=b
   ·rw[X b D R]at j;exact d.new b q j
   ·have:=g2 b q (by omega) (by omega) j;exact .inr (qZ d.fr.size this)
 have p:Fr (roI ι0 s.ro) w0.w w':=d.fr.trans (λb q j=>by
  obtain⟨x,hx,rfl⟩:=zU j;have W:=aI (bS.1 A x hx);exact(d.new x.1 q (D6 r.wr ι x.1 _ j)).imp (λ⟨E,h,hr⟩=>⟨E,Ds h W,hr⟩) id) g4
 have hT:=d.tmps.kill t;rw[St.kill_eq]at O hp;cases e with
 | returned x=>
  obtain⟨p1,Y⟩:=g5;refine O p1 i _ _ X ⟨by rw[nB];exact d.size,by rw[jB];exact d.defers,TR.app (s:={ T:=vQ r.kill s.T,H:=BE r.kill s.H,nb:=s.nb,lo:=s.lo,ro:=s.ro,rb:=s.rb }) hT d.size hd (λu hu=>by cases hu;exact Y),g3,m,y,p,d.low,K,d.gl⟩
 | panicked Z=>
  obtain⟨p1,x,rfl,Y⟩:=g5;exact hp p1 i x _ Y ⟨d.size,d.defers,hT,g3,m,y,p,d.low,K,d.gl⟩
 | outgrown=>exact g5.elim
def zp{c:Bool}{P:Program}{fr:Nat}{o:Oper}{e:Eff}{v:Option V}{wr:List (Nat×Blk)}{g:Nat}(h:va c P fr o e=(v,wr,g)):Ao P fr o e=(v,wr,g)\/(e.val,e.wr.toList,UW e)=(v,wr,g):=by
 unfold va at h;split at h;rename_i f b d a;split at h
 ·exact .inl (a.trans h)
 ·split at h
  ·exact .inr h
  ·exact .inl (a.trans h)
def vF{d:Bool}{P:Program}{fr:Nat}{o:Oper}{e:Eff}{v:Option V}{wr:List (Nat×Blk)}{g:Nat}(h:va d P fr o e=(v,wr,g))(a:g=0):e.new=false\/e.wr=none:=by
 rcases zp h with h | h
 ·exact Ge h a
 ·simp only[bC]at h;have h:=h.2.2;rw[a]at h;unfold UW at h;split at h
  ·rename_i c;exact .inr c
  ·left;cases b:e.new with
   | false=>rfl
   | true=>rw[b]at h;cases h
def JW{a:Bool}{P:Program}{fr nb:Nat}{o:Oper}{e:Eff}{v:Option V}{wr:List (Nat×Blk)}{g:Nat}(h:va a P fr o e=(v,wr,g)):
  (if e.new=true/\e.wr≠none then max nb (fr+1)else nb)<=nbOf nb fr g:=by
 cases g with
 | zero=>
  have:=vF h rfl;rw[ab (λhc=>by rcases this with h | h;rw[h]at hc;cases hc.1;exact hc.2 h)];exact aU _
 | succ g=>
  simp only[nbOf];split<;>omega
def Ac{m:Bool}{P:Program}{fr:Nat}{o:Oper}{e:Eff}{v:Option V}{wr:List (Nat×Blk)}{g:Nat}(h:va m P fr o e=(v,wr,g)){n:Nat}{ι0 ι:Inj}{w0:Base}{s:St}{nb0 nb:Nat}{a:Act}{w:World}
  (j:Inv n ι0 w0 ι (s.app o.dst e.val e.wr.toList nb0) a w) (d:∀b,fr<=b->b<fr+g->(b=fr->e.wr=none)->ι b=none) (k:∀f,e.wr=some f->e.new=true->f.1=fr) (i:nb0<=nb) (l:g=0\/fr+g<=nb):
  ∃c,(∀b,(b<fr\/fr+g<=b)->c b=ι b)/\Inv n ι0 w0 c (s.app o.dst v wr nb) a w:=by
 rcases zp h with h | h
 ·exact N4 h j d k i l
 ·simp only[bC]at h;obtain⟨rfl,rfl,_⟩:=h;exact⟨ι,λ_ _=>rfl,j.setnb i⟩
def HZ{α:Type}{E:List Ent}(hE:∀x∈E,fC P x){n fr:Nat}{ι0 ι:Inj}{w0:Base}{s:St}{o:Oper}{a:Act}{w:World}(I:Inv n ι0 w0 ι s a w)
  (u:∀b,fr<=b->b<fr+8->ι b=none) {k:St->List Nat->List (Nat×Blk)->Nat->Option α} {kp:V->St->Option α} {z:α} (h:Dp P E n fr o s k kp=some z)
  {next:Act->World->Prop} {Q:Exit->Act->World->Prop}
  (hn:∀s' rd wr g c p w',k s' rd wr g=some z->(∀b,(b<fr\/fr+g<=b)->c b=ι b)->Inv n ι0 w0 c s' p w'->next p w')
  (hp:∀v s' c x p w',kp v s'=some z->VR c v x->Inv n ι0 w0 c s' p w'->Q (.panic [{ v:=x,recovered:=false }]) p w'):
  o.wp P a w next Q:=by
 have S:ι fr=none:=u fr (aU _) (by omega);unfold Dp at h;split at h
 ·cases h
 rename_i hd;have K:vw P (Bg E) fr o s k=some z->o.wp P a w next Q:=by
  intro h;unfold vw at h;obtain⟨e,R,M⟩:=Lp I.tmps I.mem S h;split at R;rename_i v wr g B;split at R
  case h_2=>cases R
  rename_i J;simp only[aB]at J;have W:=aI J.2;have G:∀O,e.wr=some O->e.new=true->O.1=fr:=λO Z A=>gR.new_eq M Z A;refine Ho I S hd M (λA O Z=>by
   have:=J.1;unfold roOK at this;rw[Z]at this;simp only[A]at this;exact aI this) λc p w' D g2 d=>?_
  obtain⟨T,k1,k2⟩:=Ac B d (λb X e2 e3=>by
   by_cases j:b=fr
   ·subst j;rw[g2 (.inr (e3 rfl))];exact S
   ·rw[D b j];exact u b X (by omega)) G (nb:=nbOf s.nb fr g) (JW B) (Vm s.nb fr g)
  refine hn _ _ _ _ T p w' R (λb U=>?_) k2;rw[k1 b U];by_cases j:b=fr
  ·subst j;refine g2 (vF B (by omega))
  ·exact D b j
 split at h
 ·rename_i cl F;split at h
  ·rename_i g q;split at h
   ·rename_i f cap hg;obtain⟨l,hl,h⟩:=ax h;obtain⟨r,H,h3⟩:=wy hE h;split at H
    ·cases H
    rename_i m;simp only[aB]at m;have C:r.kill=[]:=by simpa using m.2.2
    have W:=aI m.1;obtain⟨N,args,tys⟩:=cl;simp only at q;subst q;refine AN F I (λb X e2=>u b X (by omega)) hd hg hl m.2.1 (by rw[C];rfl) (h3 _ λ_ _=>rfl) (λi c p w' D d=>?_) (λi c x w' D d=>?_)
    ·rw[i]at H;rw[C]at D d;exact hn _ _ _ _ c p w' H (λb J=>D b rfl J) d
    ·rw[i]at H;rw[C]at d;exact hp _ _ c x a w' H D d
   ·cases h
  ·exact K h
 ·rename_i x F;split at h
  ·rename_i t v hx;have Y:=bz I.tmps hx;have hv':=Y;simp only[VR]at Y;obtain⟨y,h6,_⟩:=Y;unfold Oper.wp;have L:(execOp a.eval o).run P w=.halt (.panic (.iface t y)) w:=by
    simp only[execOp,F,h6,Instr.panic,az,run_goPanic,Result.andThen_halt]
   rw[L];exact hp _ _ ι _ a w h (h6▸hv') I
  ·cases h
 ·exact K h
def TR.again{ι:Inj}{T:List (Nat×Option V)}{E:Array Value}(F:TR ι T E){d:Nat}{v:V}(G:look T d=some (some v)):TR ι ((d,some v)::T) E:=by
 intro t u C;rw[aS]at C;split at C
 ·rename_i e;subst e;simp only[aq]at C;subst C;exact F d v G
 ·exact F t u C
def Inv.again{n:Nat}{ι0 ι:Inj}{w0:Base}{s:St}{a:Act}{w:World}(h:Inv n ι0 w0 ι s a w){d:Nat}{v:V}(C:look s.T d=some (some v)):
  Inv n ι0 w0 ι { s with T:=(d,some v)::s.T } a w:=
 ⟨h.size,h.defers,h.tmps.again C,h.mem,h.ext,h.new,h.fr,h.low,h.fz,h.gl⟩
def sG{ops:List Oper}{j d:Nat}(h:gtmp ops j=some d)(a:Array Value):
  yielded ops.toArray a j=match a[d]? with | some (.bool b)=>some b | _=>none:=by
 unfold gtmp at h;split at h
 ·rename_i o c;have:(ops.toArray[j]?).bind (·.dst)=some d:=by simp[c,h]
  unfold yielded;rw[this];rfl
 ·cases h
def O8{α:Type}{n:Nat}{ι0 ι:Inj}{w0:Base}{ops:List Oper}{o:Oper}{s:St}{a:Act}{w:World}(f:Inv n ι0 w0 ι s a w){k:Bool->St->Option α}{z:α}
  (h:wL ops o s k=some z):∃c s',k c s'=some z/\Inv n ι0 w0 ι s' a w/\Region.wanted o (yielded ops.toArray a.tmps)=c/\(∀t,look s'.T t=look s.T t)/\s'.H=s.H/\s'.nb=s.nb:=by
 unfold wL at h;split at h
 ·rename_i i;exact⟨true,s,h,f,by simp[Region.wanted,i],λ_=>rfl,rfl,rfl⟩
 ·rename_i j c i;split at h
  case h_2=>cases h
  rename_i d m;have hy:=sG m a.tmps;have again:∀x,look s.T d=some (some (.b x))->∀t,look ((d,some (V.b x))::s.T) t=look s.T t:=by
   intro x hx t;rw[aS];split
   ·rename_i e;subst e;exact hx.symm
   ·rfl
  split at h
  ·rename_i x hx;obtain⟨y,l,g⟩:=f.tmps d _ hx;simp only[VR]at g;subst g;rw[l]at hy;cases x
   ·exact⟨!c,_,h,f.again hx,by cases c<;>simp[Region.wanted,i,hy],again _ hx,rfl,rfl⟩
   ·exact⟨c,_,h,f.again hx,by cases c<;>simp[Region.wanted,i,hy],again _ hx,rfl,rfl⟩
  ·rename_i hx;obtain⟨y,l,g⟩:=f.tmps d _ hx;simp only[VR]at g;obtain⟨p,rfl,_⟩:=g;rw[l]at hy;exact⟨false,s,h,f,by simp[Region.wanted,i,hy],λ_=>rfl,rfl,rfl⟩
  ·cases h
def Qp(ι:Inj):VR ι (.tp []) undef:=by
 simp only[VR];exact⟨#[],rfl,by simp[VRs]⟩
def Inv.skip{n:Nat}{ι0 ι:Inj}{w0:Base}{s:St}{a:Act}{w:World}(h:Inv n ι0 w0 ι s a w){d:Option Nat}(C:vi n d=true):
  Inv n ι0 w0 ι (s.app d (some (.tp [])) [] s.nb) (a.put d undef) w:=
 ⟨by rw[nB];exact h.size,by rw[jB];exact h.defers,h.tmps.app h.size C (λu E=>by cases E;exact Qp ι),h.mem,h.ext,h.new,h.fr,h.low,h.fz,h.gl⟩
def Inv.fresh{n:Nat}{ι0 ι:Inj}{w0:Base}{s:St}{a:Act}{w:World}(h:Inv n ι0 w0 ι s a w):∀b,s.nb<=b->ι b=none:=by
 intro b C;cases hi:ι b with
 | none=>rfl
 | some r=>have:=h.mem.low b r hi;omega
end Go.Abs
