
import Derived.Test.YtjkmipianfkncaaGreatDoorAbsI
set_option linter.unusedSimpArgs false
set_option linter.unusedVariables false
set_option linter.defProp false
namespace Go.Abs
variable {P:Program}
def l9(P:Program)(f:Nat):Prop:=∀(args:Array Value) (w:World),(callFunc f args).run P w=.ok (.enter f args) w
def RetR(ι:Inj)(r:CR):Ending->Prop
 | .returned x=>r.pan=false/\VR ι r.val x
 | .panicked a=>r.pan=true/\∃x,a=[{ v:=x,recovered:=false }]/\VR ι r.val x
 | .outgrown=>False
def vi(wr:List (Nat×Blk))(ι:Inj):Inj:=λb=>if wr.any (λx=>Nat.beq x.1 b)then ι b else none
def Gw(P:Program)(f:Nat)(args:List V)(H:List (Nat×Blk))(fr:Nat)(r:CR):Prop:=
 ∀(ι:Inj) (nb:Nat) (w:World) (c:Array Value),WR ι H nb w->GL (vi r.wr ι) w->(∀x∈r.wr,∀q,ι x.1=some (some q)->q.fz=false)->(∀b,fr<=b->b<fr+r.grow->ι b=none)->VRs ι args c.toList->
  Calls P f c w λe w'=>∃a:Inj,(∀b,isIn r.kill b=false->(b<fr\/fr+r.grow<=b)->a b=ι b)/\
   (∀b q,isIn r.kill b=true->a b=some (some q)->(∃d,ι b=some (some d)/\d.r=q.r)\/w.heap.size<=q.r)/\(∀b q,fr<=b->b<fr+r.grow->a b=some (some q)->w.heap.size<=q.r)/\(∀b q,a b=some (some q)->q.fz=true->ι b=some (some q))/\
   WR a (r.wr++zS r.kill H) (max nb (fr+r.grow)) w'/\Fr (vi r.wr ι) w w'/\RetR a r e
mutual
def VR.kill{ι J:Inj}{K:List Nat}(h:∀b,isIn K b=false->∀q,ι b=some q->J b=some q):∀(v:V) (x:Value),VR ι v x->VR J (V.kill K v) x
 | .b _,_,hx | .i _ _,_,hx | .s _,_,hx | .pn,_,hx | .sn,_,hx | .nf,_,hx | .ni,_,hx | .ai _ _ _,_,hx | .unk,_,hx=>by simpa only[V.kill,VR]using hx
 | .p c o,x,hx=>by
  simp only[VR]at hx;obtain⟨q,C,rfl⟩:=hx;simp only[V.kill];cases hc:isIn K c with
  | true=>simp[VR,Value.cells,Value.oneCell']
  | false=>simp only[af,VR];exact⟨q,h c hc _ C,rfl⟩
 | .mp c,x,hx=>by
  simp only[VR]at hx;obtain⟨q,C,rfl⟩:=hx;simp only[V.kill];cases hc:isIn K c with
  | true=>simp[VR,Value.cells,Value.oneCell']
  | false=>simp only[af,VR];exact⟨q,h c hc _ C,rfl⟩
 | .pr z c j o,x,hx=>by
  simp only[VR]at hx;obtain⟨q,C,rfl⟩:=hx;simp only[V.kill];cases hc:isIn K c with
  | true=>simp[VR,Value.cells,Value.oneCell']
  | false=>simp only[af,VR];exact⟨q,h c hc _ C,rfl⟩
 | .sl c o n m,x,hx=>by
  simp only[VR]at hx;obtain⟨q,cp,C,E,O,rfl⟩:=hx;simp only[V.kill];cases hc:isIn K c with
  | true=>simp[VR,Value.cells,Value.oneCell']
  | false=>simp only[af,VR];exact⟨q,cp,h c hc _ C,E,O,rfl⟩
 | .ws c,x,hx=>by
  simp only[VR]at hx;simp only[V.kill];cases hc:isIn K c with
  | true=>rcases hx with⟨q,C,rfl⟩ | ⟨C,G,rfl⟩<;>simp[VR,Value.cells,Value.oneCell']
  | false=>
   simp only[af,VR];rcases hx with⟨q,C,rfl⟩ | ⟨C,G,rfl⟩
   ·exact .inl ⟨q,h c hc _ C,rfl⟩
   ·exact .inr ⟨h c hc _ C,G,rfl⟩
 | .rs z c j n _,x,hx=>by
  simp only[VR]at hx;simp only[V.kill];cases hc:isIn K c with
  | true=>rcases hx with⟨q,cp,o,C,E,O,rfl⟩ | ⟨C,E,G,rfl⟩<;>simp[VR,Value.cells,Value.oneCell']
  | false=>
   simp only[af,VR];rcases hx with⟨q,cp,o,C,E,O,rfl⟩ | ⟨C,E,G,rfl⟩
   ·exact .inl ⟨q,cp,o,h c hc _ C,E,O,rfl⟩
   ·exact .inr ⟨h c hc _ C,E,G,rfl⟩
 | .fn f cap,x,hx=>by
  simp only[V.kill,VR]at hx ⊢;obtain⟨F,C,E⟩:=hx;exact⟨F,C,VRs.kill h _ _ E⟩
 | .it t v,x,hx=>by
  simp only[V.kill,VR]at hx ⊢;obtain⟨y,C,E⟩:=hx;exact⟨y,C,VR.kill h _ _ E⟩
 | .ag l,x,hx=>by
  simp only[V.kill,VR]at hx ⊢;obtain⟨F,C,E⟩:=hx;exact⟨F,C,VRs.kill h _ _ E⟩
 | .tp l,x,hx=>by
  simp only[V.kill,VR]at hx ⊢;obtain⟨F,C,E⟩:=hx;exact⟨F,C,VRs.kill h _ _ E⟩
def VRs.kill{ι C:Inj}{K:List Nat}(h:∀b,isIn K b=false->∀q,ι b=some q->C b=some q):∀(l:List V) (E:List Value),VRs ι l E->VRs C (V.kills K l) E
 | [],_,hx=>by simpa[V.kills,VRs]using hx
 | v::l,E,hx=>by
  simp only[V.kills,VRs]at hx ⊢;obtain⟨y,ys,G,J,F⟩:=hx;exact⟨y,ys,G,VR.kill h _ _ J,VRs.kill h _ _ F⟩
end
def BR.kill{ι E:Inj}{K:List Nat}(h:∀b,isIn K b=false->∀q,ι b=some q->E b=some q){q:Rf}:∀{blk:Blk} {o:Obj},BR ι q blk o->BR E q (blk.kill K) o
 | .dead,_,_=>trivial
 | .rows t l,o,C=>C
 | .cells l,o,C=>by
  obtain⟨F,e,fr,J,O,G⟩:=C;exact⟨F,e,fr,J,VRs.kill h _ _ O,G⟩
 | .ints k n l,o,C=>C
 | .iter s pos,o,C=>C
 | .mp k l,o,C=>C
def uq(K:List Nat):∀(T:List (Nat×Option V)) (t:Nat),look (vu K T) t=(look T t).map (Option.map (V.kill K))
 | [],t=>rfl
 | (u,none)::T,t=>by
  simp only[vu,aR,uq K T];split<;>rfl
 | (u,some v)::T,t=>by
  simp only[vu,aR,uq K T];split<;>rfl
def uK(K:List Nat):∀(H:List (Nat×Blk)) (b:Nat),look (zS K H) b=(look H b).map (Blk.kill K)
 | [],t=>rfl
 | (u,v)::T,t=>by
  simp only[zS,aR,uK K T];split<;>rfl
def TR.kill{ι C:Inj}{K:List Nat}(h:∀b,isIn K b=false->∀q,ι b=some q->C b=some q){T:List (Nat×Option V)}{G:Array Value}(J:TR ι T G):TR C (vu K T) G:=by
 intro t v E;rw[uq]at E;cases F:look T t with
 | none=>simp[F]at E
 | some o=>
  cases o with
  | none=>simp[F]at E
  | some u=>
   simp only[F,fi,ar]at E;subst E;obtain⟨x,O,Q⟩:=J t u F;exact⟨x,O,VR.kill h _ _ Q⟩
mutual
def V.kill_nil:∀v:V,V.kill [] v=v
 | .b _ | .i _ _ | .s _ | .pn | .sn | .nf | .ni | .ai _ _ _ | .unk | .p _ _ | .pr _ _ _ _ | .sl _ _ _ _ | .ws _ | .rs _ _ _ _ _ | .mp _=>rfl
 | .fn f l | .ag l | .tp l=>by simp only[V.kill,V.kills_nil l]
 | .it t v=>by simp only[V.kill,V.kill_nil v]
def V.kills_nil:∀l:List V,V.kills [] l=l
 | []=>rfl
 | v::l=>by simp only[V.kills,V.kill_nil v,V.kills_nil l]
end
def tN:∀H:List (Nat×Blk),zS [] H=H
 | []=>rfl
 | (b,x)::H=>by
  simp only[zS,tN H];cases x<;>simp only[Blk.kill,V.kills_nil]
def wk:∀T:List (Nat×Option V),vu [] T=T
 | []=>rfl
 | (b,none)::T=>by simp only[vu,wk T]
 | (b,some x)::T=>by simp only[vu,wk T,V.kill_nil]
def St.kill_eq(K:List Nat)(s:St):s.kill K={ T:=vu K s.T,H:=zS K s.H,nb:=s.nb,lo:=s.lo,ro:=s.ro,rb:=s.rb }:=by
 cases K with
 | nil=>simp only[St.kill,wk,tN]
 | cons b K=>rfl
def Xf(P:Program)(f:Nat)(args:List V)(r:CR):Prop:=
 r.pan=false/\r.wr=[]/\r.grow=0/\r.kill=[]/\∀(ι:Inj) (w:World) (a:Array Value),VRs ι args a.toList->∃x,(callFunc f a).run P w=.ok (.value x) w/\VR ι r.val x
def GoOK(P:Program)(f:Nat)(args:List V)(H:List (Nat×Blk))(fr:Nat)(r:CR):Prop:=(l9 P f/\Gw P f args H fr r)\/Xf P f args r
def gg(P:Program)(x:Ent):Prop:=
 ∀(α:Type) (args:List V) (H:List (Nat×Blk)) (fr:Nat) (k:CR->Option α) (z:α),x.e α args H fr k=some z->
  ∃r,k r=some z/\∀a,(∀b∈r.rd,look a b=look H b)->GoOK P x.f args a fr r
def vG{α:Type}{f:Nat}{args:List V}{H:List (Nat×Blk)}{fr:Nat}{k:CR->Option α}{z:α}:∀{E:List Ent},(∀x∈E,gg P x)->Im α f args H fr k E=some z->
  ∃r,k r=some z/\∀c,(∀b∈r.rd,look c b=look H b)->GoOK P f args c fr r
 | [],_,h=>by simp[Im]at h
 | x::E,d,h=>by
  simp only[Im]at h;cases a:Nat.beq x.f f with
  | true=>
   rw[a]at h;have e:=bG a;subst e;exact d x (by simp) α args H fr k z h
  | false=>
   rw[a]at h;exact vG (λy hy=>d y (gm _ hy)) h
def ExR(ι:Inj):Ex->Exit->Prop
 | .normal,e=>e=.normal
 | .exit id,e=>e=.exit id
 | .ret,e=>e=.ret
 | .pan v,e=>∃x,e=.panic [{ v:=x,recovered:=false }]/\VR ι v x
def Post(n:Nat)(ι0:Inj)(w0:Base)(b:Ex->St->Prop):Exit->Act->World->Prop:=
 λe a w=>∃ex s ι,ExR ι ex e/\Inv n ι0 w0 ι s a w/\b ex s
def SemC(P:Program)(n:Nat)(c:Code)(s:St)(b:Ex->St->Prop):Prop:=
 ∀(ι0:Inj) (w0:Base) (ι:Inj) (a:Act) (w:World),Inv n ι0 w0 ι s a w->c.wp P (Post n ι0 w0 b) a w
def jF(P:Program)(n:Nat)(L:List Sub):AC->Prop
 | .seq a b | .cond _ a b=>jF P n L a/\jF P n L b
 | .block _ a | .scope a | .loop a=>jF P n L a
 | .sub m c=>∀(α:Type) (s:St) (k:Ex->St->Option α) (z:α),IH α m s k L=some z->SemC P n c.code s λex s'=>k ex s'=some z
 | _=>True
def Fr.trans{ι0 J:Inj}{w0 w w':World}(h:Fr ι0 w0 w)(Q:∀b q,J b=some (some q)->(∃G,ι0 b=some (some G)/\G.r=q.r)\/w0.heap.size<=q.r)(F:Fr J w w'):Fr ι0 w0 w':=by
 refine⟨F.os.trans h.os,F.tape.trans h.tape,F.output.trans h.output,qu h.size F.size,λk E C=>?_⟩;rw[F.blk k (qV E h.size) ?_,h.blk k E C];intro b q W;rcases Q b q W with⟨G,O,U⟩ | O
 ·rw[<-U];exact C b G O
 ·omega
def mZ(a:Act)(d:Option Nat)(v:Value):(a.put d v).tmps.size=a.tmps.size:=by
 cases d<;>simp[Act.put]
def jr(a:Act)(d:Option Nat)(v:Value):(a.put d v).defers=a.defers:=by
 cases d<;>rfl
def TR.app{ι:Inj}{s:St}{a:Act}{n:Nat}{d:Option Nat}{v:Option V}{x:Value}{wr:List (Nat×Blk)}{nb:Nat}(C:TR ι s.T a.tmps)(hs:a.tmps.size=n)(hd:uX n d=true)
  (E:∀u,v=some u->VR ι u x):TR ι (s.app d v wr nb).T (a.put d x).tmps:=by
 cases d with
 | none=>exact C
 | some d=>exact C.put (by rw[hs];exact aH hd) E
def Inv.drawn{n:Nat}{ι0 ι:Inj}{w0:Base}{s:St}{a:Act}{w:World}(h:Inv n ι0 w0 ι s a w)(m:Nat):Inv n ι0 w0 ι s a { w with drawn:=m }:=
 ⟨h.size,h.defers,h.tmps,h.mem.draws m,h.ext,h.new,h.fr.draws m,h.low,h.fz,h.gl⟩
def Hq {n fr:Nat} {ι0 ι:Inj} {w0:Base} {s:St} {o:Oper} {a:Act} {w:World} {e:Eff} (f:Inv n ι0 w0 ι s a w) (I:ι fr=none) (hd:uX n o.dst=true)
  (h:gH P ι fr o a w e) (v:e.new=false->∀G,e.wr=some G->s.ro<=G.1) {next:Act->World->Prop} {Q:Exit->Act->World->Prop}
  (C:∀g J w',(∀b,b≠fr->g b=ι b)->(e.new=false\/e.wr=none->g fr=ι fr)->
   Inv n ι0 w0 g (s.app o.dst e.val e.wr.toList (if e.new=true/\e.wr≠none then max s.nb (fr+1) else s.nb)) J w'->next J w'):
  o.wp P a w next Q:=by
 have l:∀{x:Next} {w':World} {g:Inj},(execOp a.eval o).run P w=.ok x w'->NextR g e.val x->(∀y,(∀u,e.val=some u->VR g u y)->next (a.put o.dst y) w')->o.wp P a w next Q:=by
  intro x w' g B hx hy;unfold Oper.wp;rw [B];cases hx with
  | skip D=>exact hy _ (λu K=>by rw [D] at K;cases K)
  | value x D=>exact hy _ D
 unfold gH at h;split at h
 ·rename_i k;obtain ⟨x,z,m⟩:=h;refine l z m λy hy=>C ι _ _ (λ_ _=>rfl) (λ_=>rfl) ?_;rw [k];simp only [ne_eq,ux,and_false,az];exact ⟨by rw [mZ];exact f.size,by rw [jr];exact f.defers,f.tmps.app f.size hd hy,f.mem,f.ext,f.new,f.fr,f.low,f.fz,f.gl⟩
 ·rename_i b blk k;split at h
  ·rename_i i;obtain ⟨r,z,M⟩:=h;have t:r.fz=false:=by
    cases hc:r.fz with
    | false=>rfl
    | true=>have:=f.fz b r z hc;have:=v i _ k;simp only at this;omega
   obtain ⟨ob,x,m,A,F⟩:=M t;refine l m F λy hy=>C ι _ _ (λ_ _=>rfl) (λ_=>rfl) ?_;rw [k,i];simp only [bj,wv,az];refine ⟨by rw [mZ];exact f.size,by rw [jr];exact f.defers,f.tmps.app f.size hd hy,f.mem.write z t A,f.ext,f.new,?_,f.low,f.fz,f.gl⟩;exact f.fr.write ((f.new b r z).imp (λ⟨L,h,B⟩=>⟨b,L,BQ h (v i _ k),B⟩) id) _
  ·rename_i i;obtain ⟨rfl,d,q,ob,x,m,H,E,A,F⟩:=h;have j:=pQ (r:=some q) I;refine l m F λy hy=>C (upd ι b (some q)) _ _ (λc hc=>by simp [upd,hc]) (λhc=>by rw [i,k] at hc;simp at hc) ?_;rw [k,i];simp only [ne_eq,reduceCtorEq,E3,and_self,aG]
   refine ⟨by rw [mZ];exact f.size,by rw [jr];exact f.defers,(f.tmps.mono j).app f.size hd hy,(f.mem.draws d).alloc I (by simp only [St.app];omega) (by simp only [St.app];omega) H A,λc q hc=>(f.ext c q hc).imp (j _ _) id,λc q hc=>?_,(f.fr.draws d).alloc ob,f.low,λc p hc hp=>by
    unfold upd at hc;split at hc
    ·simp only [ar] at hc;subst hc;rw [E] at hp;cases hp
    ·exact f.fz c p hc hp,f.gl⟩
   unfold upd at hc;split at hc
   ·simp only [ar] at hc;subst hc;exact .inr (by rw [H];exact f.fr.size)
   ·exact f.new c q hc
def Inv.phantom'{n:Nat}{ι0 ι:Inj}{w0:Base}{s:St}{a:Act}{w:World}(E:Inv n ι0 w0 ι s a w){g:Nat}(W:ι g=none){nb:Nat}(U:s.nb<=nb)(Y:g<nb)(tr:List Lf):
  Inv n ι0 w0 (upd ι g none) { T:=s.T,H:=(g,.rows tr [])::s.H,nb:=nb,lo:=s.lo,ro:=s.ro,rb:=s.rb } a w:=by
 have F:=pQ (r:=none) W;have G:∀b,b≠g->upd ι g none b=ι b:=λb J=>by simp[upd,J]
 have C:∀b q,upd ι g none b=some (some q)->ι b=some (some q):=by
  intro b q h;by_cases J:b=g
  ·subst J;rw[dp]at h;cases h
  ·rwa[G b J]at h
 refine⟨E.size,E.defers,E.tmps.mono F,⟨λb b' q Z X e2=>E.mem.inj b b' q Z (C _ _ X) (C _ _ e2),λb q e=>?_,λb q e=>E.mem.dom b q (C _ _ e),λb y O hd=>?_⟩,
  λb q e=>(E.ext b q e).imp (F _ _) id,λb q e=>E.new b q (C _ _ e),E.fr,E.low,λb q e=>E.fz b q (C _ _ e),E.gl⟩
 ·by_cases J:b=g
  ·subst J;exact Y
  ·rw[G b J]at e;exact qV (E.mem.low b q e) U
 ·rw[aR]at O;split at O
  ·rename_i e;subst e;simp only[ar]at O;subst O;exact .inr ⟨dp _ _ _,tr,rfl⟩
  ·rename_i Q;exact(E.mem.blk b y O hd).map (G b (λe=>Q e.symm)) (λ_ _=>rfl) (λ_ _ h=>BR.mono F h) (λ_ h=>h)
def Inv.setnb{n:Nat}{ι0 ι:Inj}{w0:Base}{s:St}{a:Act}{w:World}(C:Inv n ι0 w0 ι s a w){nb:Nat}(h:s.nb<=nb):
  Inv n ι0 w0 ι { T:=s.T,H:=s.H,nb:=nb,lo:=s.lo,ro:=s.ro,rb:=s.rb } a w:=
 ⟨C.size,C.defers,C.tmps,⟨C.mem.inj,λb q e=>qV (C.mem.low b q e) h,C.mem.dom,C.mem.blk⟩,C.ext,C.new,C.fr,C.low,C.fz,C.gl⟩
def Qw{ι:Inj}{g:Nat}(a:ι g=some none){x:Value}(h:VR ι .sn x):VR ι (.ws g) x:=by
 simp only[VR]at h ⊢;exact .inr ⟨a,none,h⟩
def Aj:∀(ns:List (Nat×List Lf)) (g:Nat) (l:List V) (d:List (Nat×Blk)) (t:List V) (H:List (Nat×Blk)),nilL g ns l d=(t,H)->∃o,H=o++d/\
  ∀{n:Nat} {ι0 ι:Inj} {w0:Base} {s:St} {a:Act} {w:World},Inv n ι0 w0 ι s a w->(∀b,g<=b->b<g+o.length->ι b=none)->∀nb,s.nb<=nb->(o=[]\/g+o.length<=nb)->
   ∃c,(∀b,(b<g\/g+o.length<=b)->c b=ι b)/\(∀b q,ι b=some q->c b=some q)/\(∀m,VRs c l m->VRs c t m)/\
    Inv n ι0 w0 c { T:=s.T,H:=o++s.H,nb:=nb,lo:=s.lo,ro:=s.ro,rb:=s.rb } a w
 | [],g,l,d,t,H,h=>by
  simp only[nilL,bm]at h;obtain⟨rfl,rfl⟩:=h;exact⟨[],rfl,λ{n ι0 ι w0 s a w} A f nb B v=>⟨ι,λ_ _=>rfl,λ_ _ h=>h,λ_ h=>h,A.setnb B⟩⟩
 | (i,tr)::r,g,l,d,t,H,h=>by
  simp only[nilL]at h;split at h
  ·rename_i hi;obtain⟨y,rfl,G⟩:=Aj r (g+1) _ _ _ _ h;refine⟨y++[(g,.rows tr [])],by simp,λ{n ι0 ι w0 s a w} A f nb B v=>?_⟩;have p:(y++[((g,.rows tr []):Nat×Blk)]).length=y.length+1:=by simp
   rw[p]at f v ⊢;have v:g+(y.length+1)<=nb:=v.resolve_left (by simp);have D:=f g (aQ _) (by omega);have u:=pQ (r:=none) D
   obtain⟨c,k1,k2,E,k4⟩:=G (A.phantom' D B (by omega) tr) (λb J I=>by
    have:upd ι g none b=ι b:=by simp[upd,show b≠g by omega]
    rw[this];exact f b (by omega) (by omega)) nb (aQ _) (.inr (by omega))
   refine⟨c,λb C=>?_,λb q C=>k2 b q (u b q C),λm hx=>E m ?_,by simpa using k4⟩
   ·rw[k1 b (by omega)];simp[upd,show b≠g by omega]
   ·obtain⟨x,k,z⟩:=hx.get hi;have:=hx.set i (Qw (g:=g) (k2 _ _ (dp _ _ _)) z);rwa[show m.set i x=m from by
     apply B9;intro j;rw[List.getElem?_set];split
     ·rename_i e;subst e;split
      ·exact k.symm
      ·rename_i F;rw[gU (by omega)]at k;cases k
     ·rfl]at this
  ·exact Aj r g l d t H h
def RS{α:Type}(l m:List (Nat×α))(n:Nat):look (l++m) n=(look l n).or (look m n):=by
 induction l with
 | nil=>rfl
 | cons x l ih=>
  obtain⟨k,v⟩:=x;rw[dB,aR,aR,ih];split<;>rfl
def Inv.reH{n:Nat}{ι0 ι:Inj}{w0:Base}{T:List (Nat×Option V)}{A B:List (Nat×Blk)}{b nb lo ro rb:Nat}{l O:List V}{a:Act}{w:World}
  (E:Inv n ι0 w0 ι ⟨T,A++(b,.cells l)::B,nb,lo,ro,rb⟩ a w) (h:∀J,VRs ι l J->VRs ι O J):Inv n ι0 w0 ι ⟨T,A++(b,.cells O)::B,nb,lo,ro,rb⟩ a w:=by
 refine⟨E.size,E.defers,E.tmps,⟨E.mem.inj,E.mem.low,E.mem.dom,λc y hc hd=>?_⟩,E.ext,E.new,E.fr,E.low,E.fz,E.gl⟩;have C:=E.mem.blk c;rw[RS,aR]at hc C;cases G:look A c with
 | some z=>rw[G]at hc C;exact C y hc hd
 | none=>
  rw[G]at hc C;simp only[FA]at hc C;split at hc
  ·rename_i e;rw[ae e]at C;simp only[ar]at hc;subst hc;rcases C _ rfl (by simp)with⟨q,o,Y,F,U⟩ | ⟨_,t,F⟩
   ·obtain⟨Q,Z,fr,g1,W,X⟩:=U;exact .inl ⟨q,o,Y,F,Q,Z,fr,g1,h _ W,X⟩
   ·cases F
  ·rename_i e;rw[ab e]at C;exact C y hc hd
def Inv.reT{n:Nat}{ι0 ι:Inj}{w0:Base}{s:St}{wr:List (Nat×Blk)}{d:Option Nat}{nb:Nat}{v J:V}{a:Act}{w:World}
  (E:Inv n ι0 w0 ι (s.app d (some v) wr nb) a w) (h:∀x,VR ι v x->VR ι J x):Inv n ι0 w0 ι (s.app d (some J) wr nb) a w:=by
 refine⟨E.size,E.defers,?_,E.mem,E.ext,E.new,E.fr,E.low,E.fz,E.gl⟩;have G:=E.tmps;cases d with
 | none=>exact G
 | some d=>
  intro t u F;have C:=G t;simp only[St.app,aR]at F C;split at F
  ·rename_i e;rw[ae e]at C;simp only[ar]at F;subst F;obtain⟨x,O,Q⟩:=C v rfl;exact⟨x,O,h x Q⟩
  ·rename_i e;rw[ab e]at C;exact C u F
def RL{P:Program}{t:TypeId}{g:Nat}{v o:V}{f:List (Nat×Blk)}(h:nilV P t g v=(o,f)){n:Nat}{ι0 ι:Inj}{w0:Base}{s:St}{d:Option Nat}{nb0:Nat}{a:Act}{w:World}
  (p:Inv n ι0 w0 ι (s.app d (some v) [] nb0) a w) (k:∀b,g<=b->b<g+f.length->ι b=none) {nb:Nat} (q:nb0<=nb) (m:f=[]\/g+f.length<=nb):
  ∃c,(∀b,(b<g\/g+f.length<=b)->c b=ι b)/\Inv n ι0 w0 c (s.app d (some o) f nb) a w:=by
 have j:(v,([]:List (Nat×Blk)))=(o,f)->∃c,(∀b,(b<g\/g+f.length<=b)->c b=ι b)/\Inv n ι0 w0 c (s.app d (some o) f nb) a w:=by
  intro e;simp only[bm]at e;obtain⟨rfl,rfl⟩:=e;exact⟨ι,λ_ _=>rfl,p.setnb q⟩
 unfold nilV at h;split at h
 ·split at h
  ·rename_i i tr r H;simp only[bm]at h;obtain⟨rfl,rfl⟩:=h;have z:=k g (aQ _) (by simp);have m:g+1<=nb:=by simpa using m
   have:=p.phantom' z q m tr;exact⟨upd ι g none,λb y=>by simp only[ya]at y;simp[upd,show b≠g by omega],Inv.reT (s:=s) (wr:=[(g,.rows tr [])]) (v:=.sn) this λx hx=>Qw (dp _ _ _) hx⟩
  ·exact j h
 ·rename_i l;split at h;rename_i I E F;simp only[bm]at h;obtain⟨rfl,rfl⟩:=h;obtain⟨G,e,C⟩:=Aj _ _ _ _ _ _ F;rw[lu]at e;subst e;obtain⟨c,k1,k2,u,k4⟩:=C p k nb q m;refine⟨c,k1,Inv.reT (s:=s) (wr:=E) (v:=.ag l) k4 λx hx=>?_⟩;simp only[VR]at hx ⊢;obtain⟨B,D,A⟩:=hx;exact⟨B,D,u _ A⟩
 ·exact j h
def QT(nb fr:Nat):∀g,g=0\/fr+g<=nbOf nb fr g
 | 0=>.inl rfl
 | _+1=>.inr (Nat.le_max_right _ _)
def fS9{P:Program}{fr:Nat}{o:Oper}{e:Eff}{v:Option V}{wr:List (Nat×Blk)}{g:Nat}(h:zy P fr o e=(v,wr,g))(c:g=0):e.new=false\/e.wr=none:=by
 unfold zy at h;split at h
 ·rename_i b;exact .inr b
 ·split at h
  ·rename_i a;exact .inl a
  ·split at h
   ·split at h;simp only[bm]at h;omega
   ·simp only[bm]at h;omega
def gH.new_eq{ι:Inj}{f:Nat}{o:Oper}{a:Act}{w:World}{e:Eff}(h:gH P ι f o a w e){C:Nat×Blk}(E:e.wr=some C)(F:e.new=true):C.1=f:=by
 unfold gH at h;rw[E]at h;simp only[F]at h;exact h.1
def J9{P:Program}{fr:Nat}{o:Oper}{e:Eff}{v:Option V}{wr:List (Nat×Blk)}{g:Nat}(h:zy P fr o e=(v,wr,g)){n:Nat}{ι0 ι:Inj}{w0:Base}{s:St}{nb0 nb:Nat}{a:Act}{w:World}
  (k:Inv n ι0 w0 ι (s.app o.dst e.val e.wr.toList nb0) a w) (r:∀b,fr<=b->b<fr+g->(b=fr->e.wr=none)->ι b=none) (F:∀m,e.wr=some m->e.new=true->m.1=fr) (z:nb0<=nb) (C:g=0\/fr+g<=nb):
  ∃f,(∀b,(b<fr\/fr+g<=b)->f b=ι b)/\Inv n ι0 w0 f (s.app o.dst v wr nb) a w:=by
 have i:(e.val,e.wr.toList)=(v,wr)->∃f,(∀b,(b<fr\/fr+g<=b)->f b=ι b)/\Inv n ι0 w0 f (s.app o.dst v wr nb) a w:=by
  intro e;simp only[bm]at e;obtain⟨rfl,rfl⟩:=e;exact⟨ι,λ_ _=>rfl,k.setnb z⟩
 unfold zy at h;split at h
 ·rename_i j;rw[j]at k i;split at h
  ·rename_i t u M L;split at h;rename_i S H J;simp only[bm]at h;obtain⟨rfl,rfl,rfl⟩:=h;rw[L]at k;obtain⟨f,k1,k2⟩:=RL J (d:=o.dst) (s:=s) k (λb x G=>r b x G λ_=>j) z (C.imp (λh=>tU h) id);exact⟨f,k1,k2⟩
  ·simp only[bm]at h;exact i (by simp[h.1,h.2.1])
 ·rename_i m j;rw[j]at i;split at h
  ·simp only[bm]at h;exact i (by simp[h.1,h.2.1])
  ·rename_i y;split at h
   ·rename_i t l O p;split at h;rename_i R H K;simp only[bm]at h;obtain⟨rfl,rfl,rfl⟩:=h;obtain⟨N,D,I⟩:=Aj _ _ _ _ _ _ K;rw[lu]at D;subst D;rw[j]at k;have x:=F m j y;obtain⟨b,blk⟩:=m;simp only at p x;subst p x;obtain⟨f,k1,k2,E,k4⟩:=I k (λc T Q=>r c (by omega) (by omega) (λq=>by omega)) nb z (C.elim (λh=>by omega) λh=>.inr (by omega));refine⟨f,λc hc=>k1 c (by omega),?_⟩;have:=Inv.reH (A:=H) (B:=s.H) (b:=b) k4 E;simpa[St.app]using this
   ·simp only[bm]at h;exact i (by simp[h.1,h.2.1])
def QC{ι:Inj}{T:List (Nat×Option V)}{a:Act}(c:TR ι T a.tmps){g:Operand}{f:Nat}{cap:List V}(h:opd T g=some (.fn f cap)):
  ∃b:Array Value,a.eval g=fnV f b/\VRs ι cap b.toList:=by
 have:=br c h;simpa only[VR]using this
def zI{wr:List (Nat×Blk)}{ι:Inj}{b:Nat}{r:Option Rf}(h:vi wr ι b=some r):∃x∈wr,x.1=b:=by
 unfold vi at h;split at h
 ·rename_i c;obtain⟨x,hx,a⟩:=tz.1 c;exact⟨x,hx,bG a⟩
 ·cases h
def Dh(wr:List (Nat×Blk))(ι:Inj):∀b r,vi wr ι b=some r->ι b=some r:=by
 intro b r h;unfold vi at h;split at h
 ·exact h
 ·cases h
def N9{K f:Nat}{ι:Inj}{o:Oper}{a:Act}{g:Operand}{args:Array Operand}{d:Array TypeId}{c:Array Value}{cap l:List V}(i:o.op=.call ⟨.value g,args,d⟩)
  (b:a.eval g=fnW K f c) (h:VRs ι cap c.toList) (e:VRs ι l (args.toList.map a.eval)) (w:World):
  ∃as:Array Value,VRs ι (fnAW K f l cap) as.toList/\(execOp a.eval o).run P w=(callFunc (fnFW K f) as).run P w:=by
 unfold fnAW fnFW;unfold fnW at b;cases j:Nat.blt f K<;>rw[j]at b<;>simp only at b ⊢
 ·refine⟨c++args.map a.eval,by simpa using h.append e,?_⟩;simp only[execOp,i,resolve,b,Deferred.ofValue,Array.append_empty,aw,aB,ay,invoke]
 ·refine⟨args.map a.eval++c,by simpa using e.append h,?_⟩;simp only[execOp,i,resolve,b,Deferred.ofValue,Array.empty_append,aw,aB,ay,invoke]
def zP{n fr:Nat}{ι0 ι:Inj}{w0:Base}{s:St}{o:Oper}{a:Act}{w:World}{g:Operand}{args:Array Operand}{W:Array TypeId}{f:Nat}{cap l:List V}{r:CR}
  (ho:o.op=.call ⟨.value g,args,W⟩) (d:Inv n ι0 w0 ι s a w) (K:∀b,fr<=b->b<fr+r.grow->ι b=none) (hd:uX n o.dst=true)
  (hg:opd s.T g=some (.fn f cap)) (hl:opds (opd s.T) args.toList=some l) (C:r.wr.all (λx=>Nat.ble s.ro x.1)=true)
  (D:r.kill.all (λb=>Nat.ble s.rb b)=true) (hc:GoOK P (fnF f) (fnA f l cap) s.H fr r)
  {next:Act->World->Prop} {Q:Exit->Act->World->Prop}
  (R:r.pan=false->∀i a' w',(∀b,isIn r.kill b=false->(b<fr\/fr+r.grow<=b)->i b=ι b)->Inv n ι0 w0 i ((s.kill r.kill).app o.dst (some r.val) r.wr (max s.nb (fr+r.grow))) a' w'->next a' w')
  (hp:r.pan=true->∀i x w',VR i r.val x->Inv n ι0 w0 i ((s.kill r.kill).app none none r.wr (max s.nb (fr+r.grow))) a w'->Q (.panic [{ v:=x,recovered:=false }]) a w'):
  o.wp P a w next Q:=by
 obtain⟨cs,h1,h2⟩:=QC d.tmps hg;have h3:=xc d.tmps hl;obtain⟨as,J,t⟩:=N9 (P:=P) ho (show a.eval g=fnW 1000000 f cs from h1) h2 h3 w;rcases hc with⟨hE,hc⟩ | ⟨a1,a2,a3,a4,L⟩
 case inr=>
  obtain⟨x,A,hx⟩:=L ι w as J;have m:(execOp a.eval o).run P w=.ok (.value x) w:=by rw[t];exact A
  unfold Oper.wp;rw[m];refine R a1 ι _ _ (λ_ _ _=>rfl) ?_;rw[a2,a3,a4,cG];refine⟨by rw[mZ];exact d.size,by rw[jr];exact d.defers,TR.app (s:=s) d.tmps d.size hd (λu hu=>by cases hu;exact hx),?_,d.ext,d.new,d.fr,d.low,d.fz,d.gl⟩;exact⟨d.mem.inj,λb q E=>qV (d.mem.low b q E) (EW _ _),d.mem.dom,d.mem.blk⟩
 have m:(execOp a.eval o).run P w=.ok (.enter (fnF f) as) w:=by rw[t];exact hE _ _
 unfold Oper.wp;rw[m];simp only[Oper.upon];refine(hc ι s.nb w as d.mem (d.glHere λb q j=>by
  obtain⟨x,hx,rfl⟩:=zI j;exact⟨Dh r.wr ι x.1 _ j,aH (cE.1 C x hx)⟩) (λx hx q E=>by
  cases hc:q.fz with
  | false=>rfl
  | true=>have:=d.fz x.1 q E hc;have:=aH (cE.1 C x hx);omega) (λb X hb2=>K b X (by omega)) J).mono λe w' h=>?_
 obtain⟨i,Y,g0,g2,g6,g3,g4,g5⟩:=h;have G:∀b q,i b=some (some q)->q.fz=true->b<s.ro:=λb q j E=>d.fz b q (g6 b q j E) E;have I:∀b,isIn r.kill b=true->s.rb<=b:=by
  intro b j;obtain⟨c,M,hc2⟩:=tz.1 j;rw[bG hc2];exact aH (cE.1 D c M)
 have z:∀b,isIn r.kill b=false->∀q,ι b=some q->i b=some q:=by
  intro b B q j;rw[Y b B ?_];exact j;rcases aF b fr with h | h
  ·exact .inl h
  ·rcases aF b (fr+r.grow)with h' | h'
   ·have:=K b h (by omega);rw[this]at j;cases j
   ·exact .inr h'
 have k:∀b q,ι0 b=some q->i b=some q\/s.rb<=b:=by
  intro b q j;rcases d.ext b q j with h | h
  ·cases B:isIn r.kill b with
   | true=>exact .inr (I b B)
   | false=>exact .inl (z b B q h)
  ·exact .inr h
 have p:∀b q,i b=some (some q)->(∃F,ι0 b=some (some F)/\F.r=q.r)\/w0.w.heap.size<=q.r:=by
  intro b q j;cases B:isIn r.kill b with
  | true=>
   rcases g0 b q B j with⟨F,N,h7⟩ | N
   ·rw[<-h7];exact d.new b F N
   ·exact .inr (qu d.fr.size N)
  | false=>
   by_cases U:b<fr\/fr+r.grow<=b
   ·rw[Y b B U]at j;exact d.new b q j
   ·have:=g2 b q (by omega) (by omega) j;exact .inr (qu d.fr.size this)
 have y:Fr (roI ι0 s.ro) w0.w w':=d.fr.trans (λb q j=>by
  obtain⟨x,hx,rfl⟩:=zI j;have h1:=aH (cE.1 C x hx);exact(d.new x.1 q (Dh r.wr ι x.1 _ j)).imp (λ⟨F,h,hr⟩=>⟨F,BQ h h1,hr⟩) id) g4
 have hT:=d.tmps.kill z;rw[St.kill_eq]at R hp;cases e with
 | returned x=>
  obtain⟨S,O⟩:=g5;refine R S i _ _ Y ⟨by rw[mZ];exact d.size,by rw[jr];exact d.defers,TR.app (s:={ T:=vu r.kill s.T,H:=zS r.kill s.H,nb:=s.nb,lo:=s.lo,ro:=s.ro,rb:=s.rb }) hT d.size hd (λu hu=>by cases hu;exact O),g3,k,p,y,d.low,G,d.gl⟩
 | panicked Z=>
  obtain⟨S,x,rfl,O⟩:=g5;exact hp S i x _ O ⟨d.size,d.defers,hT,g3,k,p,y,d.low,G,d.gl⟩
 | outgrown=>exact g5.elim
def yO{c:Bool}{P:Program}{fr:Nat}{o:Oper}{e:Eff}{v:Option V}{wr:List (Nat×Blk)}{g:Nat}(h:uH c P fr o e=(v,wr,g)):zy P fr o e=(v,wr,g)\/(e.val,e.wr.toList,Tj e)=(v,wr,g):=by
 unfold uH at h;split at h;rename_i d b f a;split at h
 ·exact .inl (a.trans h)
 ·split at h
  ·exact .inr h
  ·exact .inl (a.trans h)
def vh{b:Bool}{P:Program}{fr:Nat}{o:Oper}{e:Eff}{v:Option V}{wr:List (Nat×Blk)}{g:Nat}(h:uH b P fr o e=(v,wr,g))(a:g=0):e.new=false\/e.wr=none:=by
 rcases yO h with h | h
 ·exact fS9 h a
 ·simp only[bm]at h;have h:=h.2.2;rw[a]at h;unfold Tj at h;split at h
  ·rename_i d;exact .inr d
  ·left;cases c:e.new with
   | false=>rfl
   | true=>rw[c]at h;cases h
def IG{a:Bool}{P:Program}{fr nb:Nat}{o:Oper}{e:Eff}{v:Option V}{wr:List (Nat×Blk)}{g:Nat}(h:uH a P fr o e=(v,wr,g)):
  (if e.new=true/\e.wr≠none then max nb (fr+1)else nb)<=nbOf nb fr g:=by
 cases g with
 | zero=>
  have:=vh h rfl;rw[ab (λhc=>by rcases this with h | h;rw[h]at hc;cases hc.1;exact hc.2 h)];exact aQ _
 | succ g=>
  simp only[nbOf];split<;>omega
def zg{k:Bool}{P:Program}{fr:Nat}{o:Oper}{e:Eff}{v:Option V}{wr:List (Nat×Blk)}{g:Nat}(h:uH k P fr o e=(v,wr,g)){n:Nat}{ι0 ι:Inj}{w0:Base}{s:St}{nb0 nb:Nat}{a:Act}{w:World}
  (j:Inv n ι0 w0 ι (s.app o.dst e.val e.wr.toList nb0) a w) (d:∀b,fr<=b->b<fr+g->(b=fr->e.wr=none)->ι b=none) (m:∀i,e.wr=some i->e.new=true->i.1=fr) (f:nb0<=nb) (l:g=0\/fr+g<=nb):
  ∃c,(∀b,(b<fr\/fr+g<=b)->c b=ι b)/\Inv n ι0 w0 c (s.app o.dst v wr nb) a w:=by
 rcases yO h with h | h
 ·exact J9 h j d m f l
 ·simp only[bm]at h;obtain⟨rfl,rfl,_⟩:=h;exact⟨ι,λ_ _=>rfl,j.setnb f⟩
def FU{α:Type}{E:List Ent}(hE:∀x∈E,gg P x){n fr:Nat}{ι0 ι:Inj}{w0:Base}{s:St}{o:Oper}{a:Act}{w:World}(I:Inv n ι0 w0 ι s a w)
  (G:∀b,fr<=b->b<fr+8->ι b=none) {k:St->List Nat->List (Nat×Blk)->Nat->Option α} {kp:V->St->Option α} {z:α} (h:D8 P E n fr o s k kp=some z)
  {next:Act->World->Prop} {Q:Exit->Act->World->Prop}
  (hn:∀s' rd wr g c m w',k s' rd wr g=some z->(∀b,(b<fr\/fr+g<=b)->c b=ι b)->Inv n ι0 w0 c s' m w'->next m w')
  (hp:∀v s' c x m w',kp v s'=some z->VR c v x->Inv n ι0 w0 c s' m w'->Q (.panic [{ v:=x,recovered:=false }]) m w'):
  o.wp P a w next Q:=by
 have Y:ι fr=none:=G fr (aQ _) (by omega);unfold D8 at h;split at h
 ·cases h
 rename_i hd;have J:um P (A8 E) fr o s k=some z->o.wp P a w next Q:=by
  intro h;unfold um at h;obtain⟨e,N,L⟩:=Lh I.tmps I.mem Y h;split at N;rename_i v wr g A;split at N
  case h_2=>cases N
  rename_i K;simp only[aC]at K;have Z:=aH K.2;have F:∀O,e.wr=some O->e.new=true->O.1=fr:=λO S u=>gH.new_eq L S u;refine Hq I Y hd L (λu O S=>by
   have:=K.1;unfold roOK at this;rw[S]at this;simp only[u]at this;exact aH this) λc m w' D g2 d=>?_
  obtain⟨T,k1,k2⟩:=zg A d (λb W e2 e3=>by
   by_cases i:b=fr
   ·subst i;rw[g2 (.inr (e3 rfl))];exact Y
   ·rw[D b i];exact G b W (by omega)) F (nb:=nbOf s.nb fr g) (IG A) (QT s.nb fr g)
  refine hn _ _ _ _ T m w' N (λb U=>?_) k2;rw[k1 b U];by_cases i:b=fr
  ·subst i;refine g2 (vh A (by omega))
  ·exact D b i
 split at h
 ·rename_i cl B;split at h
  ·rename_i g q;split at h
   ·rename_i f cap hg;obtain⟨l,hl,h⟩:=av h;obtain⟨r,H,h3⟩:=vG hE h;split at H
    ·cases H
    rename_i p;simp only[aC]at p;have C:r.kill=[]:=by simpa using p.2.2
    have Z:=aH p.1;obtain⟨R,args,tys⟩:=cl;simp only at q;subst q;refine zP B I (λb W e2=>G b W (by omega)) hd hg hl p.2.1 (by rw[C];rfl) (h3 _ λ_ _=>rfl) (λj c m w' D d=>?_) (λj c x w' D d=>?_)
    ·rw[j]at H;rw[C]at D d;exact hn _ _ _ _ c m w' H (λb K=>D b rfl K) d
    ·rw[j]at H;rw[C]at d;exact hp _ _ c x a w' H D d
   ·cases h
  ·exact J h
 ·rename_i x B;split at h
  ·rename_i t v hx;have X:=br I.tmps hx;have hv':=X;simp only[VR]at X;obtain⟨y,h6,_⟩:=X;unfold Oper.wp;have M:(execOp a.eval o).run P w=.halt (.panic (.iface t y)) w:=by
    simp only[execOp,B,h6,Instr.panic,aw,run_goPanic,Result.andThen_halt]
   rw[M];exact hp _ _ ι _ a w h (h6▸hv') I
  ·cases h
 ·exact J h
def TR.again{ι:Inj}{T:List (Nat×Option V)}{F:Array Value}(E:TR ι T F){d:Nat}{v:V}(G:look T d=some (some v)):TR ι ((d,some v)::T) F:=by
 intro t u C;rw[aR]at C;split at C
 ·rename_i e;subst e;simp only[ar]at C;subst C;exact E d v G
 ·exact E t u C
def Inv.again{n:Nat}{ι0 ι:Inj}{w0:Base}{s:St}{a:Act}{w:World}(h:Inv n ι0 w0 ι s a w){d:Nat}{v:V}(C:look s.T d=some (some v)):
  Inv n ι0 w0 ι { s with T:=(d,some v)::s.T } a w:=
 ⟨h.size,h.defers,h.tmps.again C,h.mem,h.ext,h.new,h.fr,h.low,h.fz,h.gl⟩
def rl{ops:List Oper}{j d:Nat}(h:gtmp ops j=some d)(a:Array Value):
  yielded ops.toArray a j=match a[d]? with | some (.bool b)=>some b | _=>none:=by
 unfold gtmp at h;split at h
 ·rename_i o c;have:(ops.toArray[j]?).bind (·.dst)=some d:=by simp[c,h]
  unfold yielded;rw[this];rfl
 ·cases h
def LN{α:Type}{n:Nat}{ι0 ι:Inj}{w0:Base}{ops:List Oper}{o:Oper}{s:St}{a:Act}{w:World}(f:Inv n ι0 w0 ι s a w){k:Bool->St->Option α}{z:α}
  (h:xh ops o s k=some z):∃c s',k c s'=some z/\Inv n ι0 w0 ι s' a w/\Region.wanted o (yielded ops.toArray a.tmps)=c/\(∀t,look s'.T t=look s.T t)/\s'.H=s.H/\s'.nb=s.nb:=by
 unfold xh at h;split at h
 ·rename_i g;exact⟨true,s,h,f,by simp[Region.wanted,g],λ_=>rfl,rfl,rfl⟩
 ·rename_i j c g;split at h
  case h_2=>cases h
  rename_i d hd;have hy:=rl hd a.tmps;have again:∀x,look s.T d=some (some (.b x))->∀t,look ((d,some (V.b x))::s.T) t=look s.T t:=by
   intro x hx t;rw[aR];split
   ·rename_i e;subst e;exact hx.symm
   ·rfl
  split at h
  ·rename_i x hx;obtain⟨y,l,i⟩:=f.tmps d _ hx;simp only[VR]at i;subst i;rw[l]at hy;cases x
   ·exact⟨!c,_,h,f.again hx,by cases c<;>simp[Region.wanted,g,hy],again _ hx,rfl,rfl⟩
   ·exact⟨c,_,h,f.again hx,by cases c<;>simp[Region.wanted,g,hy],again _ hx,rfl,rfl⟩
  ·rename_i hx;obtain⟨y,l,i⟩:=f.tmps d _ hx;simp only[VR]at i;obtain⟨m,rfl,_⟩:=i;rw[l]at hy;exact⟨false,s,h,f,by simp[Region.wanted,g,hy],λ_=>rfl,rfl,rfl⟩
  ·cases h
def Oe(ι:Inj):VR ι (.tp []) undef:=by
 simp only[VR];exact⟨#[],rfl,by simp[VRs]⟩
def Inv.skip{n:Nat}{ι0 ι:Inj}{w0:Base}{s:St}{a:Act}{w:World}(h:Inv n ι0 w0 ι s a w){d:Option Nat}(hd:uX n d=true):
  Inv n ι0 w0 ι (s.app d (some (.tp [])) [] s.nb) (a.put d undef) w:=
 ⟨by rw[mZ];exact h.size,by rw[jr];exact h.defers,h.tmps.app h.size hd (λu C=>by cases C;exact Oe ι),h.mem,h.ext,h.new,h.fr,h.low,h.fz,h.gl⟩
def Inv.fresh{n:Nat}{ι0 ι:Inj}{w0:Base}{s:St}{a:Act}{w:World}(h:Inv n ι0 w0 ι s a w):∀b,s.nb<=b->ι b=none:=by
 intro b C;cases hi:ι b with
 | none=>rfl
 | some r=>have:=h.mem.low b r hi;omega
end Go.Abs
