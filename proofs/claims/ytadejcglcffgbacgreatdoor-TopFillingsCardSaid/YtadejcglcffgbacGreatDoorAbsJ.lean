
import Derived.Test.YtadejcglcffgbacGreatDoorAbsI
set_option linter.unusedSimpArgs false
set_option linter.unusedVariables false
set_option linter.defProp false
namespace Go.Abs
variable {P:Program}
def gj(P:Program)(f:Nat):Prop:=∀(args:Array Value) (w:World),(callFunc f args).run P w=.ok (.enter f args) w
def RetR(ι:Inj)(r:CR):Ending->Prop
 | .returned x=>r.pan=false/\VR ι r.val x
 | .panicked a=>r.pan=true/\∃x,a=[{ v:=x,recovered:=false }]/\VR ι r.val x
 | .outgrown=>False
def qJ(wr:List (Nat×Blk))(ι:Inj):Inj:=λb=>if wr.any (λx=>Nat.beq x.1 b)then ι b else none
def AM(P:Program)(f:Nat)(args:List V)(H:List (Nat×Blk))(fr:Nat)(r:CR):Prop:=
 ∀(ι:Inj) (nb:Nat) (w:World) (c:Array Value),WR ι H nb w->GL (qJ r.wr ι) w->(∀x∈r.wr,∀q,ι x.1=some (some q)->q.fz=false)->(∀b,fr<=b->b<fr+r.grow->ι b=none)->VRs ι args c.toList->
  Calls P f c w λe w'=>∃a:Inj,(∀b,isIn r.kill b=false->(b<fr\/fr+r.grow<=b)->a b=ι b)/\
   (∀b q,isIn r.kill b=true->a b=some (some q)->(∃d,ι b=some (some d)/\d.r=q.r)\/w.heap.size<=q.r)/\(∀b q,fr<=b->b<fr+r.grow->a b=some (some q)->w.heap.size<=q.r)/\(∀b q,a b=some (some q)->q.fz=true->ι b=some (some q))/\
   WR a (r.wr++vn r.kill H) (max nb (fr+r.grow)) w'/\Fr (qJ r.wr ι) w w'/\RetR a r e
mutual
def VR.kill{ι C:Inj}{K:List Nat}(h:∀b,isIn K b=false->∀q,ι b=some q->C b=some q):∀(v:V) (x:Value),VR ι v x->VR C (V.kill K v) x
 | .b _,_,A | .i _ _,_,A | .s _,_,A | .pn,_,A | .sn,_,A | .nf,_,A | .ni,_,A | .ai _ _ _,_,A | .unk,_,A=>by simpa only[V.kill,VR]using A
 | .p c o,x,A=>by
  simp only[VR]at A;obtain⟨q,h1,rfl⟩:=A;simp only[V.kill];cases hc:isIn K c with
  | true=>simp[VR,Value.cells,Value.oneCell']
  | false=>simp only[ae,VR];exact⟨q,h c hc _ h1,rfl⟩
 | .mp c,x,A=>by
  simp only[VR]at A;obtain⟨q,h1,rfl⟩:=A;simp only[V.kill];cases hc:isIn K c with
  | true=>simp[VR,Value.cells,Value.oneCell']
  | false=>simp only[ae,VR];exact⟨q,h c hc _ h1,rfl⟩
 | .pr z c j o,x,A=>by
  simp only[VR]at A;obtain⟨q,h1,rfl⟩:=A;simp only[V.kill];cases hc:isIn K c with
  | true=>simp[VR,Value.cells,Value.oneCell']
  | false=>simp only[ae,VR];exact⟨q,h c hc _ h1,rfl⟩
 | .sl c o n m,x,A=>by
  simp only[VR]at A;obtain⟨q,cp,h1,h2,G,rfl⟩:=A;simp only[V.kill];cases hc:isIn K c with
  | true=>simp[VR,Value.cells,Value.oneCell']
  | false=>simp only[ae,VR];exact⟨q,cp,h c hc _ h1,h2,G,rfl⟩
 | .ws c,x,A=>by
  simp only[VR]at A;simp only[V.kill];cases hc:isIn K c with
  | true=>rcases A with⟨q,h1,rfl⟩ | ⟨h1,F,rfl⟩<;>simp[VR,Value.cells,Value.oneCell']
  | false=>
   simp only[ae,VR];rcases A with⟨q,h1,rfl⟩ | ⟨h1,F,rfl⟩
   ·exact .inl ⟨q,h c hc _ h1,rfl⟩
   ·exact .inr ⟨h c hc _ h1,F,rfl⟩
 | .rs z c j n _,x,A=>by
  simp only[VR]at A;simp only[V.kill];cases hc:isIn K c with
  | true=>rcases A with⟨q,cp,o,h1,h2,G,rfl⟩ | ⟨h1,h2,F,rfl⟩<;>simp[VR,Value.cells,Value.oneCell']
  | false=>
   simp only[ae,VR];rcases A with⟨q,cp,o,h1,h2,G,rfl⟩ | ⟨h1,h2,F,rfl⟩
   ·exact .inl ⟨q,cp,o,h c hc _ h1,h2,G,rfl⟩
   ·exact .inr ⟨h c hc _ h1,h2,F,rfl⟩
 | .fn f cap,x,A=>by
  simp only[V.kill,VR]at A ⊢;obtain⟨E,h1,h2⟩:=A;exact⟨E,h1,VRs.kill h _ _ h2⟩
 | .it t v,x,A=>by
  simp only[V.kill,VR]at A ⊢;obtain⟨y,h1,h2⟩:=A;exact⟨y,h1,VR.kill h _ _ h2⟩
 | .ag l,x,A=>by
  simp only[V.kill,VR]at A ⊢;obtain⟨E,h1,h2⟩:=A;exact⟨E,h1,VRs.kill h _ _ h2⟩
 | .tp l,x,A=>by
  simp only[V.kill,VR]at A ⊢;obtain⟨E,h1,h2⟩:=A;exact⟨E,h1,VRs.kill h _ _ h2⟩
def VRs.kill{ι A:Inj}{K:List Nat}(h:∀b,isIn K b=false->∀q,ι b=some q->A b=some q):∀(l:List V) (E:List Value),VRs ι l E->VRs A (V.kills K l) E
 | [],_,C=>by simpa[V.kills,VRs]using C
 | v::l,E,C=>by
  simp only[V.kills,VRs]at C ⊢;obtain⟨y,F,h1,h2,G⟩:=C;exact⟨y,F,h1,VR.kill h _ _ h2,VRs.kill h _ _ G⟩
end
def BR.kill{ι C:Inj}{K:List Nat}(h:∀b,isIn K b=false->∀q,ι b=some q->C b=some q){q:Rf}:∀{blk:Blk} {o:Obj},BR ι q blk o->BR C q (blk.kill K) o
 | .dead,_,_=>trivial
 | .rows t l,o,A=>A
 | .cells l,o,A=>by
  obtain⟨E,e,fr,h1,h2,F⟩:=A;exact⟨E,e,fr,h1,VRs.kill h _ _ h2,F⟩
 | .ints k n l,o,A=>A
 | .iter s pos,o,A=>A
 | .mp k l,o,A=>A
def qm(K:List Nat):∀(T:List (Nat×Option V)) (t:Nat),look (rh K T) t=(look T t).map (Option.map (V.kill K))
 | [],t=>rfl
 | (u,none)::T,t=>by
  simp only[rh,aG,qm K T];split<;>rfl
 | (u,some v)::T,t=>by
  simp only[rh,aG,qm K T];split<;>rfl
def pQ(K:List Nat):∀(H:List (Nat×Blk)) (b:Nat),look (vn K H) b=(look H b).map (Blk.kill K)
 | [],t=>rfl
 | (u,v)::T,t=>by
  simp only[vn,aG,pQ K T];split<;>rfl
def TR.kill{ι C:Inj}{K:List Nat}(h:∀b,isIn K b=false->∀q,ι b=some q->C b=some q){T:List (Nat×Option V)}{F:Array Value}(G:TR ι T F):TR C (rh K T) F:=by
 intro t v A;rw[qm]at A;cases E:look T t with
 | none=>simp[E]at A
 | some o=>
  cases o with
  | none=>simp[E]at A
  | some u=>
   simp only[E,dB,af]at A;subst A;obtain⟨x,h1,h2⟩:=G t u E;exact⟨x,h1,VR.kill h _ _ h2⟩
mutual
def V.kill_nil:∀v:V,V.kill [] v=v
 | .b _ | .i _ _ | .s _ | .pn | .sn | .nf | .ni | .ai _ _ _ | .unk | .p _ _ | .pr _ _ _ _ | .sl _ _ _ _ | .ws _ | .rs _ _ _ _ _ | .mp _=>rfl
 | .fn f l | .ag l | .tp l=>by simp only[V.kill,V.kills_nil l]
 | .it t v=>by simp only[V.kill,V.kill_nil v]
def V.kills_nil:∀l:List V,V.kills [] l=l
 | []=>rfl
 | v::l=>by simp only[V.kills,V.kill_nil v,V.kills_nil l]
end
def oV:∀H:List (Nat×Blk),vn [] H=H
 | []=>rfl
 | (b,x)::H=>by
  simp only[vn,oV H];cases x<;>simp only[Blk.kill,V.kills_nil]
def sY:∀T:List (Nat×Option V),rh [] T=T
 | []=>rfl
 | (b,none)::T=>by simp only[rh,sY T]
 | (b,some x)::T=>by simp only[rh,sY T,V.kill_nil]
def St.kill_eq(K:List Nat)(s:St):s.kill K={ T:=rh K s.T,H:=vn K s.H,nb:=s.nb,lo:=s.lo,ro:=s.ro,rb:=s.rb }:=by
 cases K with
 | nil=>simp only[St.kill,sY,oV]
 | cons b K=>rfl
def Nz(P:Program)(f:Nat)(args:List V)(r:CR):Prop:=
 r.pan=false/\r.wr=[]/\r.grow=0/\r.kill=[]/\∀(ι:Inj) (w:World) (a:Array Value),VRs ι args a.toList->∃x,(callFunc f a).run P w=.ok (.value x) w/\VR ι r.val x
def GoOK(P:Program)(f:Nat)(args:List V)(H:List (Nat×Blk))(fr:Nat)(r:CR):Prop:=(gj P f/\AM P f args H fr r)\/Nz P f args r
def cN(P:Program)(x:Ent):Prop:=
 ∀(α:Type) (args:List V) (H:List (Nat×Blk)) (fr:Nat) (k:CR->Option α) (z:α),x.e α args H fr k=some z->
  ∃r,k r=some z/\∀a,(∀b∈r.rd,look a b=look H b)->GoOK P x.f args a fr r
def rj{α:Type}{f:Nat}{args:List V}{H:List (Nat×Blk)}{fr:Nat}{k:CR->Option α}{z:α}:∀{E:List Ent},(∀x∈E,cN P x)->Cd α f args H fr k E=some z->
  ∃r,k r=some z/\∀d,(∀b∈r.rd,look d b=look H b)->GoOK P f args d fr r
 | [],_,h=>by simp[Cd]at h
 | x::E,c,h=>by
  simp only[Cd]at h;cases a:Nat.beq x.f f with
  | true=>
   rw[a]at h;have g:=aS a;subst g;exact c x (by simp) α args H fr k z h
  | false=>
   rw[a]at h;exact rj (λy e=>c y (fE _ e)) h
def ExR(ι:Inj):Ex->Exit->Prop
 | .normal,e=>e=.normal
 | .exit id,e=>e=.exit id
 | .ret,e=>e=.ret
 | .pan v,e=>∃x,e=.panic [{ v:=x,recovered:=false }]/\VR ι v x
def Post(n:Nat)(ι0:Inj)(w0:Base)(b:Ex->St->Prop):Exit->Act->World->Prop:=
 λe a w=>∃ex s ι,ExR ι ex e/\Inv n ι0 w0 ι s a w/\b ex s
def SemC(P:Program)(n:Nat)(c:Code)(s:St)(b:Ex->St->Prop):Prop:=
 ∀(ι0:Inj) (w0:Base) (ι:Inj) (a:Act) (w:World),Inv n ι0 w0 ι s a w->c.wp P (Post n ι0 w0 b) a w
def gi(P:Program)(n:Nat)(L:List Sub):AC->Prop
 | .seq a b | .cond _ a b=>gi P n L a/\gi P n L b
 | .block _ a | .scope a | .loop a=>gi P n L a
 | .sub m c=>∀(α:Type) (s:St) (k:Ex->St->Option α) (z:α),CS α m s k L=some z->SemC P n c.code s λex d=>k ex d=some z
 | _=>True
def Fr.trans{ι0 G:Inj}{w0 w w':World}(h:Fr ι0 w0 w)(J:∀b q,G b=some (some q)->(∃F,ι0 b=some (some F)/\F.r=q.r)\/w0.heap.size<=q.r)(C:Fr G w w'):Fr ι0 w0 w':=by
 refine⟨C.os.trans h.os,C.tape.trans h.tape,C.output.trans h.output,lT h.size C.size,λk E A=>?_⟩;rw[C.blk k (kK E h.size) ?_,h.blk k E A];intro b q K;rcases J b q K with⟨F,h1,h2⟩ | h1
 ·rw[<-h2];exact A b F h1
 ·omega
def jJ(a:Act)(d:Option Nat)(v:Value):(a.put d v).tmps.size=a.tmps.size:=by
 cases d<;>simp[Act.put]
def fX(a:Act)(d:Option Nat)(v:Value):(a.put d v).defers=a.defers:=by
 cases d<;>rfl
def TR.app{ι:Inj}{s:St}{a:Act}{n:Nat}{d:Option Nat}{v:Option V}{x:Value}{wr:List (Nat×Blk)}{nb:Nat}(A:TR ι s.T a.tmps)(E:a.tmps.size=n)(F:qf n d=true)
  (C:∀u,v=some u->VR ι u x):TR ι (s.app d v wr nb).T (a.put d x).tmps:=by
 cases d with
 | none=>exact A
 | some d=>exact A.put (by rw[E];exact az F) C
def Inv.drawn{n:Nat}{ι0 ι:Inj}{w0:Base}{s:St}{a:Act}{w:World}(h:Inv n ι0 w0 ι s a w)(m:Nat):Inv n ι0 w0 ι s a { w with drawn:=m }:=
 ⟨h.size,h.defers,h.tmps,h.mem.draws m,h.ext,h.new,h.fr.draws m,h.low,h.fz,h.gl⟩
def Bo {n fr:Nat} {ι0 ι:Inj} {w0:Base} {s:St} {o:Oper} {a:Act} {w:World} {e:Eff} (f:Inv n ι0 w0 ι s a w) (J:ι fr=none) (F:qf n o.dst=true)
  (h:eh P ι fr o a w e) (t:e.new=false->∀H,e.wr=some H->s.ro<=H.1) {next:Act->World->Prop} {Q:Exit->Act->World->Prop}
  (D:∀g I w',(∀b,b≠fr->g b=ι b)->(e.new=false\/e.wr=none->g fr=ι fr)->
   Inv n ι0 w0 g (s.app o.dst e.val e.wr.toList (if e.new=true/\e.wr≠none then max s.nb (fr+1) else s.nb)) I w'->next I w'):
  o.wp P a w next Q:=by
 have l:∀{x:Next} {w':World} {g:Inj},(execOp a.eval o).run P w=.ok x w'->NextR g e.val x->(∀y,(∀u,e.val=some u->VR g u y)->next (a.put o.dst y) w')->o.wp P a w next Q:=by
  intro x w' g A N j;unfold Oper.wp;rw [A];cases N with
  | skip h0=>exact j _ (λu G=>by rw [h0] at G;cases G)
  | value x h0=>exact j _ h0
 unfold eh at h;split at h
 ·rename_i m;obtain ⟨x,h1,h2⟩:=h;refine l h1 h2 λy j=>D ι _ _ (λ_ _=>rfl) (λ_=>rfl) ?_;rw [m];simp only [ne_eq,qy,and_false,aD];exact ⟨by rw [jJ];exact f.size,by rw [fX];exact f.defers,f.tmps.app f.size F j,f.mem,f.ext,f.new,f.fr,f.low,f.fz,f.gl⟩
 ·rename_i b blk m;split at h
  ·rename_i i;obtain ⟨r,h1,M⟩:=h;have v:r.fz=false:=by
    cases hc:r.fz with
    | false=>rfl
    | true=>have:=f.fz b r h1 hc;have:=t i _ m;simp only at this;omega
   obtain ⟨ob,x,h2,B,E⟩:=M v;refine l h2 E λy j=>D ι _ _ (λ_ _=>rfl) (λ_=>rfl) ?_;rw [m,i];simp only [cb,false_and,aD];refine ⟨by rw [jJ];exact f.size,by rw [fX];exact f.defers,f.tmps.app f.size F j,f.mem.write h1 v B,f.ext,f.new,?_,f.low,f.fz,f.gl⟩;exact f.fr.write ((f.new b r h1).imp (λ⟨L,h,A⟩=>⟨b,L,xR h (t i _ m),A⟩) id) _
  ·rename_i i;obtain ⟨rfl,d,q,ob,x,h2,K,C,B,E⟩:=h;have k:=l6 (r:=some q) J;refine l h2 E λy j=>D (upd ι b (some q)) _ _ (λc hc=>by simp [upd,hc]) (λhc=>by rw [i,m] at hc;simp at hc) ?_;rw [m,i];simp only [ne_eq,reduceCtorEq,zk,and_self,be]
   refine ⟨by rw [jJ];exact f.size,by rw [fX];exact f.defers,(f.tmps.mono k).app f.size F j,(f.mem.draws d).alloc J (by simp only [St.app];omega) (by simp only [St.app];omega) K B,λc q hc=>(f.ext c q hc).imp (k _ _) id,λc q hc=>?_,(f.fr.draws d).alloc ob,f.low,λc p hc z=>by
    unfold upd at hc;split at hc
    ·simp only [af] at hc;subst hc;rw [C] at z;cases z
    ·exact f.fz c p hc z,f.gl⟩
   unfold upd at hc;split at hc
   ·simp only [af] at hc;subst hc;exact .inr (by rw [K];exact f.fr.size)
   ·exact f.new c q hc
def Inv.phantom'{n:Nat}{ι0 ι:Inj}{w0:Base}{s:St}{a:Act}{w:World}(C:Inv n ι0 w0 ι s a w){g:Nat}(X:ι g=none){nb:Nat}(K:s.nb<=nb)(W:g<nb)(tr:List Lf):
  Inv n ι0 w0 (upd ι g none) { T:=s.T,H:=(g,.rows tr [])::s.H,nb:=nb,lo:=s.lo,ro:=s.ro,rb:=s.rb } a w:=by
 have E:=l6 (r:=none) X;have F:∀b,b≠g->upd ι g none b=ι b:=λb G=>by simp[upd,G]
 have A:∀b q,upd ι g none b=some (some q)->ι b=some (some q):=by
  intro b q h;by_cases G:b=g
  ·subst G;rw[bZ]at h;cases h
  ·rwa[F b G]at h
 refine⟨C.size,C.defers,C.tmps.mono E,⟨λb Z q Y Q O=>C.mem.inj b Z q Y (A _ _ Q) (A _ _ O),λb q e=>?_,λb q e=>C.mem.dom b q (A _ _ e),λb y J U=>?_⟩,
  λb q e=>(C.ext b q e).imp (E _ _) id,λb q e=>C.new b q (A _ _ e),C.fr,C.low,λb q e=>C.fz b q (A _ _ e),C.gl⟩
 ·by_cases G:b=g
  ·subst G;exact W
  ·rw[F b G]at e;exact kK (C.mem.low b q e) K
 ·rw[aG]at J;split at J
  ·rename_i e;subst e;simp only[af]at J;subst J;exact .inr ⟨bZ _ _ _,tr,rfl⟩
  ·rename_i M;exact(C.mem.blk b y J U).map (F b (λe=>M e.symm)) (λ_ _=>rfl) (λ_ _ h=>BR.mono E h) (λ_ h=>h)
def Inv.setnb{n:Nat}{ι0 ι:Inj}{w0:Base}{s:St}{a:Act}{w:World}(A:Inv n ι0 w0 ι s a w){nb:Nat}(h:s.nb<=nb):
  Inv n ι0 w0 ι { T:=s.T,H:=s.H,nb:=nb,lo:=s.lo,ro:=s.ro,rb:=s.rb } a w:=
 ⟨A.size,A.defers,A.tmps,⟨A.mem.inj,λb q e=>kK (A.mem.low b q e) h,A.mem.dom,A.mem.blk⟩,A.ext,A.new,A.fr,A.low,A.fz,A.gl⟩
def IP{ι:Inj}{g:Nat}(a:ι g=some none){x:Value}(h:VR ι .sn x):VR ι (.ws g) x:=by
 simp only[VR]at h ⊢;exact .inr ⟨a,none,h⟩
def wG:∀(ns:List (Nat×List Lf)) (g:Nat) (l:List V) (d:List (Nat×Blk)) (u:List V) (H:List (Nat×Blk)),nilL g ns l d=(u,H)->∃o,H=o++d/\
  ∀{n:Nat} {ι0 ι:Inj} {w0:Base} {s:St} {a:Act} {w:World},Inv n ι0 w0 ι s a w->(∀b,g<=b->b<g+o.length->ι b=none)->∀nb,s.nb<=nb->(o=[]\/g+o.length<=nb)->
   ∃c,(∀b,(b<g\/g+o.length<=b)->c b=ι b)/\(∀b q,ι b=some q->c b=some q)/\(∀m,VRs c l m->VRs c u m)/\
    Inv n ι0 w0 c { T:=s.T,H:=o++s.H,nb:=nb,lo:=s.lo,ro:=s.ro,rb:=s.rb } a w
 | [],g,l,d,u,H,h=>by
  simp only[nilL,ca]at h;obtain⟨rfl,rfl⟩:=h;exact⟨[],rfl,λ{n ι0 ι w0 s a w} z f nb h1 h2=>⟨ι,λ_ _=>rfl,λ_ _ h=>h,λ_ h=>h,z.setnb h1⟩⟩
 | (i,tr)::r,g,l,d,u,H,h=>by
  simp only[nilL]at h;split at h
  ·rename_i hi;obtain⟨v,rfl,E⟩:=wG r (g+1) _ _ _ _ h;refine⟨v++[(g,.rows tr [])],by simp,λ{n ι0 ι w0 s a w} z f nb h1 h2=>?_⟩;have p:(v++[((g,.rows tr []):Nat×Blk)]).length=v.length+1:=by simp
   rw[p]at f h2 ⊢;have h2:g+(v.length+1)<=nb:=h2.resolve_left (by simp);have B:=f g (aI _) (by omega);have t:=l6 (r:=none) B
   obtain⟨c,k1,k2,G,F⟩:=E (z.phantom' B h1 (by omega) tr) (λb J I=>by
    have:upd ι g none b=ι b:=by simp[upd,show b≠g by omega]
    rw[this];exact f b (by omega) (by omega)) nb (aI _) (.inr (by omega))
   refine⟨c,λb A=>?_,λb q A=>k2 b q (t b q A),λm C=>G m ?_,by simpa using F⟩
   ·rw[k1 b (by omega)];simp[upd,show b≠g by omega]
   ·obtain⟨x,k,y⟩:=C.get hi;have:=C.set i (IP (g:=g) (k2 _ _ (bZ _ _ _)) y);rwa[show m.set i x=m from by
     apply xY;intro j;rw[List.getElem?_set];split
     ·rename_i e;subst e;split
      ·exact k.symm
      ·rename_i D;rw[ec (by omega)]at k;cases k
     ·rfl]at this
  ·exact wG r g l d u H h
def JU{α:Type}(l m:List (Nat×α))(n:Nat):look (l++m) n=(look l n).or (look m n):=by
 induction l with
 | nil=>rfl
 | cons x l ih=>
  obtain⟨k,v⟩:=x;rw[jX,aG,aG,ih];split<;>rfl
def Inv.reH{n:Nat}{ι0 ι:Inj}{w0:Base}{T:List (Nat×Option V)}{A B:List (Nat×Blk)}{b nb lo ro rb:Nat}{l J:List V}{a:Act}{w:World}
  (E:Inv n ι0 w0 ι ⟨T,A++(b,.cells l)::B,nb,lo,ro,rb⟩ a w) (h:∀K,VRs ι l K->VRs ι J K):Inv n ι0 w0 ι ⟨T,A++(b,.cells J)::B,nb,lo,ro,rb⟩ a w:=by
 refine⟨E.size,E.defers,E.tmps,⟨E.mem.inj,E.mem.low,E.mem.dom,λc y hc F=>?_⟩,E.ext,E.new,E.fr,E.low,E.fz,E.gl⟩;have C:=E.mem.blk c;rw[JU,aG]at hc C;cases G:look A c with
 | some z=>rw[G]at hc C;exact C y hc F
 | none=>
  rw[G]at hc C;simp only[yZ]at hc C;split at hc
  ·rename_i e;rw[ad e]at C;simp only[af]at hc;subst hc;rcases C _ rfl (by simp)with⟨q,o,h1,h2,X⟩ | ⟨_,t,h2⟩
   ·obtain⟨U,Q,fr,M,O,W⟩:=X;exact .inl ⟨q,o,h1,h2,U,Q,fr,M,h _ O,W⟩
   ·cases h2
  ·rename_i e;rw[ab e]at C;exact C y hc F
def Inv.reT{n:Nat}{ι0 ι:Inj}{w0:Base}{s:St}{wr:List (Nat×Blk)}{d:Option Nat}{nb:Nat}{v F:V}{a:Act}{w:World}
  (C:Inv n ι0 w0 ι (s.app d (some v) wr nb) a w) (h:∀x,VR ι v x->VR ι F x):Inv n ι0 w0 ι (s.app d (some F) wr nb) a w:=by
 refine⟨C.size,C.defers,?_,C.mem,C.ext,C.new,C.fr,C.low,C.fz,C.gl⟩;have G:=C.tmps;cases d with
 | none=>exact G
 | some d=>
  intro t u E;have A:=G t;simp only[St.app,aG]at E A;split at E
  ·rename_i e;rw[ad e]at A;simp only[af]at E;subst E;obtain⟨x,h1,h2⟩:=A v rfl;exact⟨x,h1,h x h2⟩
  ·rename_i e;rw[ab e]at A;exact A u E
def Jy{P:Program}{t:TypeId}{g:Nat}{v m:V}{f:List (Nat×Blk)}(h:nilV P t g v=(m,f)){n:Nat}{ι0 ι:Inj}{w0:Base}{s:St}{d:Option Nat}{nb0:Nat}{a:Act}{w:World}
  (p:Inv n ι0 w0 ι (s.app d (some v) [] nb0) a w) (k:∀b,g<=b->b<g+f.length->ι b=none) {nb:Nat} (h1:nb0<=nb) (h2:f=[]\/g+f.length<=nb):
  ∃c,(∀b,(b<g\/g+f.length<=b)->c b=ι b)/\Inv n ι0 w0 c (s.app d (some m) f nb) a w:=by
 have j:(v,([]:List (Nat×Blk)))=(m,f)->∃c,(∀b,(b<g\/g+f.length<=b)->c b=ι b)/\Inv n ι0 w0 c (s.app d (some m) f nb) a w:=by
  intro e;simp only[ca]at e;obtain⟨rfl,rfl⟩:=e;exact⟨ι,λ_ _=>rfl,p.setnb h1⟩
 unfold nilV at h;split at h
 ·split at h
  ·rename_i i tr r H;simp only[ca]at h;obtain⟨rfl,rfl⟩:=h;have B:=k g (aI _) (by simp);have h2:g+1<=nb:=by simpa using h2
   have:=p.phantom' B h1 h2 tr;exact⟨upd ι g none,λb q=>by simp only[List.length_singleton]at q;simp[upd,show b≠g by omega],Inv.reT (s:=s) (wr:=[(g,.rows tr [])]) (v:=.sn) this λx o=>IP (bZ _ _ _) o⟩
  ·exact j h
 ·rename_i l;split at h;rename_i I E F;simp only[ca]at h;obtain⟨rfl,rfl⟩:=h;obtain⟨G,e,A⟩:=wG _ _ _ _ _ _ F;rw[uR]at e;subst e;obtain⟨c,k1,k2,D,C⟩:=A p k nb h1 h2;refine⟨c,k1,Inv.reT (s:=s) (wr:=E) (v:=.ag l) C λx o=>?_⟩;simp only[VR]at o ⊢;obtain⟨z,y,u⟩:=o;exact⟨z,y,D _ u⟩
 ·exact j h
def KC(nb fr:Nat):∀g,g=0\/fr+g<=nbOf nb fr g
 | 0=>.inl rfl
 | _+1=>.inr (Nat.le_max_right _ _)
def zD{P:Program}{fr:Nat}{o:Oper}{e:Eff}{v:Option V}{wr:List (Nat×Blk)}{g:Nat}(h:uV P fr o e=(v,wr,g))(c:g=0):e.new=false\/e.wr=none:=by
 unfold uV at h;split at h
 ·rename_i a;exact .inr a
 ·split at h
  ·rename_i b;exact .inl b
  ·split at h
   ·split at h;simp only[ca]at h;omega
   ·simp only[ca]at h;omega
def eh.new_eq{ι:Inj}{f:Nat}{o:Oper}{a:Act}{w:World}{e:Eff}(h:eh P ι f o a w e){A:Nat×Blk}(C:e.wr=some A)(E:e.new=true):A.1=f:=by
 unfold eh at h;rw[C]at h;simp only[E]at h;exact h.1
def En{P:Program}{fr:Nat}{o:Oper}{e:Eff}{v:Option V}{wr:List (Nat×Blk)}{g:Nat}(h:uV P fr o e=(v,wr,g)){n:Nat}{ι0 ι:Inj}{w0:Base}{s:St}{nb0 nb:Nat}{a:Act}{w:World}
  (k:Inv n ι0 w0 ι (s.app o.dst e.val e.wr.toList nb0) a w) (p:∀b,fr<=b->b<fr+g->(b=fr->e.wr=none)->ι b=none) (F:∀m,e.wr=some m->e.new=true->m.1=fr) (h1:nb0<=nb) (h2:g=0\/fr+g<=nb):
  ∃f,(∀b,(b<fr\/fr+g<=b)->f b=ι b)/\Inv n ι0 w0 f (s.app o.dst v wr nb) a w:=by
 have i:(e.val,e.wr.toList)=(v,wr)->∃f,(∀b,(b<fr\/fr+g<=b)->f b=ι b)/\Inv n ι0 w0 f (s.app o.dst v wr nb) a w:=by
  intro e;simp only[ca]at e;obtain⟨rfl,rfl⟩:=e;exact⟨ι,λ_ _=>rfl,k.setnb h1⟩
 unfold uV at h;split at h
 ·rename_i j;rw[j]at k i;split at h
  ·rename_i t u R D;split at h;rename_i N H E;simp only[ca]at h;obtain⟨rfl,rfl,rfl⟩:=h;rw[D]at k;obtain⟨f,k1,k2⟩:=Jy E (d:=o.dst) (s:=s) k (λb x C=>p b x C λ_=>j) h1 (h2.imp (λh=>ta h) id);exact⟨f,k1,k2⟩
  ·simp only[ca]at h;exact i (by simp[h.1,h.2.1])
 ·rename_i m j;rw[j]at i;split at h
  ·simp only[ca]at h;exact i (by simp[h.1,h.2.1])
  ·rename_i y;split at h
   ·rename_i t l O r;split at h;rename_i S H K;simp only[ca]at h;obtain⟨rfl,rfl,rfl⟩:=h;obtain⟨Q,z,G⟩:=wG _ _ _ _ _ _ K;rw[uR]at z;subst z;rw[j]at k;have x:=F m j y;obtain⟨b,blk⟩:=m;simp only at r x;subst r x;obtain⟨f,k1,k2,J,I⟩:=G k (λc M L=>p c (by omega) (by omega) (λq=>by omega)) nb h1 (h2.elim (λh=>by omega) λh=>.inr (by omega));refine⟨f,λc hc=>k1 c (by omega),?_⟩;have:=Inv.reH (A:=H) (B:=s.H) (b:=b) I J;simpa[St.app]using this
   ·simp only[ca]at h;exact i (by simp[h.1,h.2.1])
def IB{ι:Inj}{T:List (Nat×Option V)}{a:Act}(c:TR ι T a.tmps){g:Operand}{f:Nat}{cap:List V}(h:opd T g=some (.fn f cap)):
  ∃b:Array Value,a.eval g=fnV f b/\VRs ι cap b.toList:=by
 have:=aP c h;simpa only[VR]using this
def vh{wr:List (Nat×Blk)}{ι:Inj}{b:Nat}{r:Option Rf}(h:qJ wr ι b=some r):∃x∈wr,x.1=b:=by
 unfold qJ at h;split at h
 ·rename_i a;obtain⟨x,c,d⟩:=mf.1 a;exact⟨x,c,aS d⟩
 ·cases h
def ya(wr:List (Nat×Blk))(ι:Inj):∀b r,qJ wr ι b=some r->ι b=some r:=by
 intro b r h;unfold qJ at h;split at h
 ·exact h
 ·cases h
def Ik{K f:Nat}{ι:Inj}{o:Oper}{a:Act}{g:Operand}{args:Array Operand}{c:Array TypeId}{b:Array Value}{cap l:List V}(d:o.op=.call ⟨.value g,args,c⟩)
  (h1:a.eval g=fnW K f b) (h2:VRs ι cap b.toList) (e:VRs ι l (args.toList.map a.eval)) (w:World):
  ∃as:Array Value,VRs ι (fnAW K f l cap) as.toList/\(execOp a.eval o).run P w=(callFunc (fnFW K f) as).run P w:=by
 unfold fnAW fnFW;unfold fnW at h1;cases h:Nat.blt f K<;>rw[h]at h1<;>simp only at h1 ⊢
 ·refine⟨b++args.map a.eval,by simpa using h2.append e,?_⟩;simp only[execOp,d,resolve,h1,Deferred.ofValue,Array.append_empty,al,av,ar,invoke]
 ·refine⟨args.map a.eval++b,by simpa using e.append h2,?_⟩;simp only[execOp,d,resolve,h1,Deferred.ofValue,Array.empty_append,al,av,ar,invoke]
def wn{n fr:Nat}{ι0 ι:Inj}{w0:Base}{s:St}{o:Oper}{a:Act}{w:World}{g:Operand}{args:Array Operand}{tys:Array TypeId}{f:Nat}{cap l:List V}{r:CR}
  (ho:o.op=.call ⟨.value g,args,tys⟩) (d:Inv n ι0 w0 ι s a w) (I:∀b,fr<=b->b<fr+r.grow->ι b=none) (hd:qf n o.dst=true)
  (hg:opd s.T g=some (.fn f cap)) (hl:opds (opd s.T) args.toList=some l) (A:r.wr.all (λx=>Nat.ble s.ro x.1)=true)
  (B:r.kill.all (λb=>Nat.ble s.rb b)=true) (hc:GoOK P (fnF f) (fnA f l cap) s.H fr r)
  {next:Act->World->Prop} {Q:Exit->Act->World->Prop}
  (X:r.pan=false->∀i a' w',(∀b,isIn r.kill b=false->(b<fr\/fr+r.grow<=b)->i b=ι b)->Inv n ι0 w0 i ((s.kill r.kill).app o.dst (some r.val) r.wr (max s.nb (fr+r.grow))) a' w'->next a' w')
  (hp:r.pan=true->∀i x w',VR i r.val x->Inv n ι0 w0 i ((s.kill r.kill).app none none r.wr (max s.nb (fr+r.grow))) a w'->Q (.panic [{ v:=x,recovered:=false }]) a w'):
  o.wp P a w next Q:=by
 obtain⟨cs,h1,h2⟩:=IB d.tmps hg;have h3:=th d.tmps hl;obtain⟨as,M,y⟩:=Ik (P:=P) ho (show a.eval g=fnW 1000000 f cs from h1) h2 h3 w;rcases hc with⟨hE,hc⟩ | ⟨a1,a2,a3,a4,K⟩
 case inr=>
  obtain⟨x,C,E⟩:=K ι w as M;have k:(execOp a.eval o).run P w=.ok (.value x) w:=by rw[y];exact C
  unfold Oper.wp;rw[k];refine X a1 ι _ _ (λ_ _ _=>rfl) ?_;rw[a2,a3,a4,eu];refine⟨by rw[jJ];exact d.size,by rw[fX];exact d.defers,TR.app (s:=s) d.tmps d.size hd (λu N=>by cases N;exact E),?_,d.ext,d.new,d.fr,d.low,d.fz,d.gl⟩;exact⟨d.mem.inj,λb q G=>kK (d.mem.low b q G) (yS _ _),d.mem.dom,d.mem.blk⟩
 have k:(execOp a.eval o).run P w=.ok (.enter (fnF f) as) w:=by rw[y];exact hE _ _
 unfold Oper.wp;rw[k];simp only[Oper.upon];refine(hc ι s.nb w as d.mem (d.glHere λb q j=>by
  obtain⟨x,E,rfl⟩:=vh j;exact⟨ya r.wr ι x.1 _ j,az (ct.1 A x E)⟩) (λx E q G=>by
  cases hc:q.fz with
  | false=>rfl
  | true=>have:=d.fz x.1 q G hc;have:=az (ct.1 A x E);omega) (λb hb1 hb2=>I b hb1 (by omega)) M).mono λe w' h=>?_
 obtain⟨i,g1,g0,g2,g6,g3,g4,S⟩:=h;have L:∀b q,i b=some (some q)->q.fz=true->b<s.ro:=λb q j G=>d.fz b q (g6 b q j G) G;have J:∀b,isIn r.kill b=true->s.rb<=b:=by
  intro b j;obtain⟨c,U,O⟩:=mf.1 j;rw[aS O];exact az (ct.1 B c U)
 have z:∀b,isIn r.kill b=false->∀q,ι b=some q->i b=some q:=by
  intro b D q j;rw[g1 b D ?_];exact j;rcases aA b fr with h | h
  ·exact .inl h
  ·rcases aA b (fr+r.grow)with h' | h'
   ·have:=I b h (by omega);rw[this]at j;cases j
   ·exact .inr h'
 have m:∀b q,ι0 b=some q->i b=some q\/s.rb<=b:=by
  intro b q j;rcases d.ext b q j with h | h
  ·cases D:isIn r.kill b with
   | true=>exact .inr (J b D)
   | false=>exact .inl (z b D q h)
  ·exact .inr h
 have t:∀b q,i b=some (some q)->(∃F,ι0 b=some (some F)/\F.r=q.r)\/w0.w.heap.size<=q.r:=by
  intro b q j;cases D:isIn r.kill b with
  | true=>
   rcases g0 b q D j with⟨F,W,h7⟩ | W
   ·rw[<-h7];exact d.new b F W
   ·exact .inr (lT d.fr.size W)
  | false=>
   by_cases Y:b<fr\/fr+r.grow<=b
   ·rw[g1 b D Y]at j;exact d.new b q j
   ·have:=g2 b q (by omega) (by omega) j;exact .inr (lT d.fr.size this)
 have p:Fr (roI ι0 s.ro) w0.w w':=d.fr.trans (λb q j=>by
  obtain⟨x,E,rfl⟩:=vh j;have h1:=az (ct.1 A x E);exact(d.new x.1 q (ya r.wr ι x.1 _ j)).imp (λ⟨F,h,hr⟩=>⟨F,xR h h1,hr⟩) id) g4
 have hT:=d.tmps.kill z;rw[St.kill_eq]at X hp;cases e with
 | returned x=>
  obtain⟨R,Z⟩:=S;refine X R i _ _ g1 ⟨by rw[jJ];exact d.size,by rw[fX];exact d.defers,TR.app (s:={ T:=rh r.kill s.T,H:=vn r.kill s.H,nb:=s.nb,lo:=s.lo,ro:=s.ro,rb:=s.rb }) hT d.size hd (λu N=>by cases N;exact Z),g3,m,t,p,d.low,L,d.gl⟩
 | panicked chain=>
  obtain⟨R,x,rfl,Z⟩:=S;exact hp R i x _ Z ⟨d.size,d.defers,hT,g3,m,t,p,d.low,L,d.gl⟩
 | outgrown=>exact S.elim
def uL{b:Bool}{P:Program}{fr:Nat}{o:Oper}{e:Eff}{v:Option V}{wr:List (Nat×Blk)}{g:Nat}(h:pN b P fr o e=(v,wr,g)):uV P fr o e=(v,wr,g)\/(e.val,e.wr.toList,Kt e)=(v,wr,g):=by
 unfold pN at h;split at h;rename_i f c d a;split at h
 ·exact .inl (a.trans h)
 ·split at h
  ·exact .inr h
  ·exact .inl (a.trans h)
def qU{d:Bool}{P:Program}{fr:Nat}{o:Oper}{e:Eff}{v:Option V}{wr:List (Nat×Blk)}{g:Nat}(h:pN d P fr o e=(v,wr,g))(a:g=0):e.new=false\/e.wr=none:=by
 rcases uL h with h | h
 ·exact zD h a
 ·simp only[ca]at h;have h:=h.2.2;rw[a]at h;unfold Kt at h;split at h
  ·rename_i c;exact .inr c
  ·left;cases b:e.new with
   | false=>rfl
   | true=>rw[b]at h;cases h
def CH{a:Bool}{P:Program}{fr nb:Nat}{o:Oper}{e:Eff}{v:Option V}{wr:List (Nat×Blk)}{g:Nat}(h:pN a P fr o e=(v,wr,g)):
  (if e.new=true/\e.wr≠none then max nb (fr+1)else nb)<=nbOf nb fr g:=by
 cases g with
 | zero=>
  have:=qU h rfl;rw[ab (λhc=>by rcases this with h | h;rw[h]at hc;cases hc.1;exact hc.2 h)];exact aI _
 | succ g=>
  simp only[nbOf];split<;>omega
def uF{j:Bool}{P:Program}{fr:Nat}{o:Oper}{e:Eff}{v:Option V}{wr:List (Nat×Blk)}{g:Nat}(h:pN j P fr o e=(v,wr,g)){n:Nat}{ι0 ι:Inj}{w0:Base}{s:St}{nb0 nb:Nat}{a:Act}{w:World}
  (i:Inv n ι0 w0 ι (s.app o.dst e.val e.wr.toList nb0) a w) (d:∀b,fr<=b->b<fr+g->(b=fr->e.wr=none)->ι b=none) (k:∀f,e.wr=some f->e.new=true->f.1=fr) (h1:nb0<=nb) (h2:g=0\/fr+g<=nb):
  ∃c,(∀b,(b<fr\/fr+g<=b)->c b=ι b)/\Inv n ι0 w0 c (s.app o.dst v wr nb) a w:=by
 rcases uL h with h | h
 ·exact En h i d k h1 h2
 ·simp only[ca]at h;obtain⟨rfl,rfl,_⟩:=h;exact⟨ι,λ_ _=>rfl,i.setnb h1⟩
def A0{α:Type}{E:List Ent}(hE:∀x∈E,cN P x){n fr:Nat}{ι0 ι:Inj}{w0:Base}{s:St}{o:Oper}{a:Act}{w:World}(H:Inv n ι0 w0 ι s a w)
  (B:∀b,fr<=b->b<fr+8->ι b=none) {k:St->List Nat->List (Nat×Blk)->Nat->Option α} {kp:V->St->Option α} {z:α} (h:yw P E n fr o s k kp=some z)
  {next:Act->World->Prop} {Q:Exit->Act->World->Prop}
  (hn:∀M rd wr g c p w',k M rd wr g=some z->(∀b,(b<fr\/fr+g<=b)->c b=ι b)->Inv n ι0 w0 c M p w'->next p w')
  (hp:∀v M c x p w',kp v M=some z->VR c v x->Inv n ι0 w0 c M p w'->Q (.panic [{ v:=x,recovered:=false }]) p w'):
  o.wp P a w next Q:=by
 have Z:ι fr=none:=B fr (aI _) (by omega);unfold yw at h;split at h
 ·cases h
 rename_i hd;have L:qi P (wS E) fr o s k=some z->o.wp P a w next Q:=by
  intro h;unfold qi at h;obtain⟨e,O,K⟩:=Ec H.tmps H.mem Z h;split at O;rename_i v wr g G;split at O
  case h_2=>cases O
  rename_i I;simp only[aw]at I;have W:=az I.2;have A:∀N,e.wr=some N->e.new=true->N.1=fr:=λN Y D=>eh.new_eq K Y D;refine Bo H Z hd K (λD N Y=>by
   have:=I.1;unfold roOK at this;rw[Y]at this;simp only[D]at this;exact az this) λc p w' F g2 d=>?_
  obtain⟨U,k1,k2⟩:=uF G d (λb X e2 e3=>by
   by_cases i:b=fr
   ·subst i;rw[g2 (.inr (e3 rfl))];exact Z
   ·rw[F b i];exact B b X (by omega)) A (nb:=nbOf s.nb fr g) (CH G) (KC s.nb fr g)
  refine hn _ _ _ _ U p w' O (λb T=>?_) k2;rw[k1 b T];by_cases i:b=fr
  ·subst i;refine g2 (qU G (by omega))
  ·exact F b i
 split at h
 ·rename_i cl u;split at h
  ·rename_i g q;split at h
   ·rename_i f cap hg;obtain⟨l,hl,h⟩:=ah h;obtain⟨r,h2,h3⟩:=rj hE h;split at h2
    ·cases h2
    rename_i m;simp only[aw]at m;have C:r.kill=[]:=by simpa using m.2.2
    have W:=az m.1;obtain⟨R,args,tys⟩:=cl;simp only at q;subst q;refine wn u H (λb X e2=>B b X (by omega)) hd hg hl m.2.1 (by rw[C];rfl) (h3 _ λ_ _=>rfl) (λj c p w' F d=>?_) (λj c x w' F d=>?_)
    ·rw[j]at h2;rw[C]at F d;exact hn _ _ _ _ c p w' h2 (λb I=>F b rfl I) d
    ·rw[j]at h2;rw[C]at d;exact hp _ _ c x a w' h2 F d
   ·cases h
  ·exact L h
 ·rename_i x u;split at h
  ·rename_i t v hx;have S:=aP H.tmps hx;have hv':=S;simp only[VR]at S;obtain⟨y,h6,_⟩:=S;unfold Oper.wp;have J:(execOp a.eval o).run P w=.halt (.panic (.iface t y)) w:=by
    simp only[execOp,u,h6,Instr.panic,al,run_goPanic,Result.andThen_halt]
   rw[J];exact hp _ _ ι _ a w h (h6▸hv') H
  ·cases h
 ·exact L h
def TR.again{ι:Inj}{T:List (Nat×Option V)}{E:Array Value}(C:TR ι T E){d:Nat}{v:V}(F:look T d=some (some v)):TR ι ((d,some v)::T) E:=by
 intro t u A;rw[aG]at A;split at A
 ·rename_i e;subst e;simp only[af]at A;subst A;exact C d v F
 ·exact C t u A
def Inv.again{n:Nat}{ι0 ι:Inj}{w0:Base}{s:St}{a:Act}{w:World}(h:Inv n ι0 w0 ι s a w){d:Nat}{v:V}(A:look s.T d=some (some v)):
  Inv n ι0 w0 ι { s with T:=(d,some v)::s.T } a w:=
 ⟨h.size,h.defers,h.tmps.again A,h.mem,h.ext,h.new,h.fr,h.low,h.fz,h.gl⟩
def nB{ops:List Oper}{j d:Nat}(h:gtmp ops j=some d)(a:Array Value):
  yielded ops.toArray a j=match a[d]? with | some (.bool b)=>some b | _=>none:=by
 unfold gtmp at h;split at h
 ·rename_i o c;have:(ops.toArray[j]?).bind (·.dst)=some d:=by simp[c,h]
  unfold yielded;rw[this];rfl
 ·cases h
def FL{α:Type}{n:Nat}{ι0 ι:Inj}{w0:Base}{ops:List Oper}{o:Oper}{s:St}{a:Act}{w:World}(g:Inv n ι0 w0 ι s a w){k:Bool->St->Option α}{z:α}
  (h:tA ops o s k=some z):∃c i,k c i=some z/\Inv n ι0 w0 ι i a w/\Region.wanted o (yielded ops.toArray a.tmps)=c/\(∀t,look i.T t=look s.T t)/\i.H=s.H/\i.nb=s.nb:=by
 unfold tA at h;split at h
 ·rename_i m;exact⟨true,s,h,g,by simp[Region.wanted,m],λ_=>rfl,rfl,rfl⟩
 ·rename_i j c m;split at h
  case h_2=>cases h
  rename_i d p;have l:=nB p a.tmps;have again:∀x,look s.T d=some (some (.b x))->∀t,look ((d,some (V.b x))::s.T) t=look s.T t:=by
   intro x f t;rw[aG];split
   ·rename_i e;subst e;exact f.symm
   ·rfl
  split at h
  ·rename_i x f;obtain⟨y,h1,h2⟩:=g.tmps d _ f;simp only[VR]at h2;subst h2;rw[h1]at l;cases x
   ·exact⟨!c,_,h,g.again f,by cases c<;>simp[Region.wanted,m,l],again _ f,rfl,rfl⟩
   ·exact⟨c,_,h,g.again f,by cases c<;>simp[Region.wanted,m,l],again _ f,rfl,rfl⟩
  ·rename_i f;obtain⟨y,h1,h2⟩:=g.tmps d _ f;simp only[VR]at h2;obtain⟨q,rfl,_⟩:=h2;rw[h1]at l;exact⟨false,s,h,g,by simp[Region.wanted,m,l],λ_=>rfl,rfl,rfl⟩
  ·cases h
def Ii(ι:Inj):VR ι (.tp []) undef:=by
 simp only[VR];exact⟨#[],rfl,by simp[VRs]⟩
def Inv.skip{n:Nat}{ι0 ι:Inj}{w0:Base}{s:St}{a:Act}{w:World}(h:Inv n ι0 w0 ι s a w){d:Option Nat}(C:qf n d=true):
  Inv n ι0 w0 ι (s.app d (some (.tp [])) [] s.nb) (a.put d undef) w:=
 ⟨by rw[jJ];exact h.size,by rw[fX];exact h.defers,h.tmps.app h.size C (λu A=>by cases A;exact Ii ι),h.mem,h.ext,h.new,h.fr,h.low,h.fz,h.gl⟩
def Inv.fresh{n:Nat}{ι0 ι:Inj}{w0:Base}{s:St}{a:Act}{w:World}(h:Inv n ι0 w0 ι s a w):∀b,s.nb<=b->ι b=none:=by
 intro b A;cases hi:ι b with
 | none=>rfl
 | some r=>have:=h.mem.low b r hi;omega
end Go.Abs
