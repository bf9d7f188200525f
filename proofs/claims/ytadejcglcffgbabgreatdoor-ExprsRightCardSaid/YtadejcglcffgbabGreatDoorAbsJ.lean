
import Derived.Test.YtadejcglcffgbabGreatDoorAbsI
set_option linter.unusedSimpArgs false
set_option linter.unusedVariables false
set_option linter.defProp false
namespace Go.Abs
variable {P:Program}
def pg(P:Program)(f:Nat):Prop:=∀(args:Array Value) (w:World),(callFunc f args).run P w=.ok (.enter f args) w
def RetR(ι:Inj)(r:CR):Ending->Prop
 | .returned x=>r.pan=false/\VR ι r.val x
 | .panicked a=>r.pan=true/\∃x,a=[{ v:=x,recovered:=false }]/\VR ι r.val x
 | .outgrown=>False
def qS(wr:List (Nat×Blk))(ι:Inj):Inj:=λb=>if wr.any (λx=>Nat.beq x.1 b)then ι b else none
def CG(P:Program)(f:Nat)(args:List V)(H:List (Nat×Blk))(fr:Nat)(r:CR):Prop:=
 ∀(ι:Inj) (nb:Nat) (w:World) (d:Array Value),WR ι H nb w->GL (qS r.wr ι) w->(∀x∈r.wr,∀q,ι x.1=some (some q)->q.fz=false)->(∀b,fr<=b->b<fr+r.grow->ι b=none)->VRs ι args d.toList->
  Calls P f d w λe w'=>∃a:Inj,(∀b,isIn r.kill b=false->(b<fr\/fr+r.grow<=b)->a b=ι b)/\
   (∀b q,isIn r.kill b=true->a b=some (some q)->(∃c,ι b=some (some c)/\c.r=q.r)\/w.heap.size<=q.r)/\(∀b q,fr<=b->b<fr+r.grow->a b=some (some q)->w.heap.size<=q.r)/\(∀b q,a b=some (some q)->q.fz=true->ι b=some (some q))/\
   WR a (r.wr++wb r.kill H) (max nb (fr+r.grow)) w'/\Fr (qS r.wr ι) w w'/\RetR a r e
mutual
def VR.kill{ι F:Inj}{K:List Nat}(h:∀b,isIn K b=false->∀q,ι b=some q->F b=some q):∀(v:V) (x:Value),VR ι v x->VR F (V.kill K v) x
 | .b _,_,hx | .i _ _,_,hx | .s _,_,hx | .pn,_,hx | .sn,_,hx | .nf,_,hx | .ni,_,hx | .ai _ _ _,_,hx | .unk,_,hx=>by simpa only[V.kill,VR]using hx
 | .p c o,x,hx=>by
  simp only[VR]at hx;obtain⟨q,A,rfl⟩:=hx;simp only[V.kill];cases hc:isIn K c with
  | true=>simp[VR,Value.cells,Value.oneCell']
  | false=>simp only[af,VR];exact⟨q,h c hc _ A,rfl⟩
 | .mp c,x,hx=>by
  simp only[VR]at hx;obtain⟨q,A,rfl⟩:=hx;simp only[V.kill];cases hc:isIn K c with
  | true=>simp[VR,Value.cells,Value.oneCell']
  | false=>simp only[af,VR];exact⟨q,h c hc _ A,rfl⟩
 | .pr z c j o,x,hx=>by
  simp only[VR]at hx;obtain⟨q,A,rfl⟩:=hx;simp only[V.kill];cases hc:isIn K c with
  | true=>simp[VR,Value.cells,Value.oneCell']
  | false=>simp only[af,VR];exact⟨q,h c hc _ A,rfl⟩
 | .sl c o n m,x,hx=>by
  simp only[VR]at hx;obtain⟨q,cp,A,C,J,rfl⟩:=hx;simp only[V.kill];cases hc:isIn K c with
  | true=>simp[VR,Value.cells,Value.oneCell']
  | false=>simp only[af,VR];exact⟨q,cp,h c hc _ A,C,J,rfl⟩
 | .ws c,x,hx=>by
  simp only[VR]at hx;simp only[V.kill];cases hc:isIn K c with
  | true=>rcases hx with⟨q,A,rfl⟩ | ⟨A,E,rfl⟩<;>simp[VR,Value.cells,Value.oneCell']
  | false=>
   simp only[af,VR];rcases hx with⟨q,A,rfl⟩ | ⟨A,E,rfl⟩
   ·exact .inl ⟨q,h c hc _ A,rfl⟩
   ·exact .inr ⟨h c hc _ A,E,rfl⟩
 | .rs z c j n _,x,hx=>by
  simp only[VR]at hx;simp only[V.kill];cases hc:isIn K c with
  | true=>rcases hx with⟨q,cp,o,A,C,J,rfl⟩ | ⟨A,C,E,rfl⟩<;>simp[VR,Value.cells,Value.oneCell']
  | false=>
   simp only[af,VR];rcases hx with⟨q,cp,o,A,C,J,rfl⟩ | ⟨A,C,E,rfl⟩
   ·exact .inl ⟨q,cp,o,h c hc _ A,C,J,rfl⟩
   ·exact .inr ⟨h c hc _ A,C,E,rfl⟩
 | .fn f cap,x,hx=>by
  simp only[V.kill,VR]at hx ⊢;obtain⟨G,A,C⟩:=hx;exact⟨G,A,VRs.kill h _ _ C⟩
 | .it t v,x,hx=>by
  simp only[V.kill,VR]at hx ⊢;obtain⟨y,A,C⟩:=hx;exact⟨y,A,VR.kill h _ _ C⟩
 | .ag l,x,hx=>by
  simp only[V.kill,VR]at hx ⊢;obtain⟨G,A,C⟩:=hx;exact⟨G,A,VRs.kill h _ _ C⟩
 | .tp l,x,hx=>by
  simp only[V.kill,VR]at hx ⊢;obtain⟨G,A,C⟩:=hx;exact⟨G,A,VRs.kill h _ _ C⟩
def VRs.kill{ι A:Inj}{K:List Nat}(h:∀b,isIn K b=false->∀q,ι b=some q->A b=some q):∀(l:List V) (C:List Value),VRs ι l C->VRs A (V.kills K l) C
 | [],_,hx=>by simpa[V.kills,VRs]using hx
 | v::l,C,hx=>by
  simp only[V.kills,VRs]at hx ⊢;obtain⟨y,G,J,F,E⟩:=hx;exact⟨y,G,J,VR.kill h _ _ F,VRs.kill h _ _ E⟩
end
def BR.kill{ι C:Inj}{K:List Nat}(h:∀b,isIn K b=false->∀q,ι b=some q->C b=some q){q:Rf}:∀{blk:Blk} {o:Obj},BR ι q blk o->BR C q (blk.kill K) o
 | .dead,_,_=>trivial
 | .rows t l,o,A=>A
 | .cells l,o,A=>by
  obtain⟨J,e,fr,G,F,E⟩:=A;exact⟨J,e,fr,G,VRs.kill h _ _ F,E⟩
 | .ints k n l,o,A=>A
 | .iter s pos,o,A=>A
 | .mp k l,o,A=>A
def qg(K:List Nat):∀(T:List (Nat×Option V)) (t:Nat),look (qZ K T) t=(look T t).map (Option.map (V.kill K))
 | [],t=>rfl
 | (u,none)::T,t=>by
  simp only[qZ,aO,qg K T];split<;>rfl
 | (u,some v)::T,t=>by
  simp only[qZ,aO,qg K T];split<;>rfl
def qF(K:List Nat):∀(H:List (Nat×Blk)) (b:Nat),look (wb K H) b=(look H b).map (Blk.kill K)
 | [],t=>rfl
 | (u,v)::T,t=>by
  simp only[wb,aO,qF K T];split<;>rfl
def TR.kill{ι A:Inj}{K:List Nat}(h:∀b,isIn K b=false->∀q,ι b=some q->A b=some q){T:List (Nat×Option V)}{F:Array Value}(M:TR ι T F):TR A (qZ K T) F:=by
 intro t v C;rw[qg]at C;cases E:look T t with
 | none=>simp[E]at C
 | some o=>
  cases o with
  | none=>simp[E]at C
  | some u=>
   simp only[E,ek,aq]at C;subst C;obtain⟨x,J,G⟩:=M t u E;exact⟨x,J,VR.kill h _ _ G⟩
mutual
def V.kill_nil:∀v:V,V.kill [] v=v
 | .b _ | .i _ _ | .s _ | .pn | .sn | .nf | .ni | .ai _ _ _ | .unk | .p _ _ | .pr _ _ _ _ | .sl _ _ _ _ | .ws _ | .rs _ _ _ _ _ | .mp _=>rfl
 | .fn f l | .ag l | .tp l=>by simp only[V.kill,V.kills_nil l]
 | .it t v=>by simp only[V.kill,V.kill_nil v]
def V.kills_nil:∀l:List V,V.kills [] l=l
 | []=>rfl
 | v::l=>by simp only[V.kills,V.kill_nil v,V.kills_nil l]
end
def pH:∀H:List (Nat×Blk),wb [] H=H
 | []=>rfl
 | (b,x)::H=>by
  simp only[wb,pH H];cases x<;>simp only[Blk.kill,V.kills_nil]
def tA:∀T:List (Nat×Option V),qZ [] T=T
 | []=>rfl
 | (b,none)::T=>by simp only[qZ,tA T]
 | (b,some x)::T=>by simp only[qZ,tA T,V.kill_nil]
def St.kill_eq(K:List Nat)(s:St):s.kill K={ T:=qZ K s.T,H:=wb K s.H,nb:=s.nb,lo:=s.lo,ro:=s.ro,rb:=s.rb }:=by
 cases K with
 | nil=>simp only[St.kill,tA,pH]
 | cons b K=>rfl
def OZ(P:Program)(f:Nat)(args:List V)(r:CR):Prop:=
 r.pan=false/\r.wr=[]/\r.grow=0/\r.kill=[]/\∀(ι:Inj) (w:World) (a:Array Value),VRs ι args a.toList->∃x,(callFunc f a).run P w=.ok (.value x) w/\VR ι r.val x
def GoOK(P:Program)(f:Nat)(args:List V)(H:List (Nat×Blk))(fr:Nat)(r:CR):Prop:=(pg P f/\CG P f args H fr r)\/OZ P f args r
def ib(P:Program)(x:Ent):Prop:=
 ∀(α:Type) (args:List V) (H:List (Nat×Blk)) (fr:Nat) (k:CR->Option α) (z:α),x.e α args H fr k=some z->
  ∃r,k r=some z/\∀a,(∀b∈r.rd,look a b=look H b)->GoOK P x.f args a fr r
def rI{α:Type}{f:Nat}{args:List V}{H:List (Nat×Blk)}{fr:Nat}{k:CR->Option α}{z:α}:∀{E:List Ent},(∀x∈E,ib P x)->Dx α f args H fr k E=some z->
  ∃r,k r=some z/\∀c,(∀b∈r.rd,look c b=look H b)->GoOK P f args c fr r
 | [],_,h=>by simp[Dx]at h
 | x::E,d,h=>by
  simp only[Dx]at h;cases a:Nat.beq x.f f with
  | true=>
   rw[a]at h;have e:=be a;subst e;exact d x (by simp) α args H fr k z h
  | false=>
   rw[a]at h;exact rI (λy hy=>d y (gN _ hy)) h
def ExR(ι:Inj):Ex->Exit->Prop
 | .normal,e=>e=.normal
 | .exit id,e=>e=.exit id
 | .ret,e=>e=.ret
 | .pan v,e=>∃x,e=.panic [{ v:=x,recovered:=false }]/\VR ι v x
def Post(n:Nat)(ι0:Inj)(w0:Base)(b:Ex->St->Prop):Exit->Act->World->Prop:=
 λe a w=>∃ex s ι,ExR ι ex e/\Inv n ι0 w0 ι s a w/\b ex s
def SemC(P:Program)(n:Nat)(c:Code)(s:St)(b:Ex->St->Prop):Prop:=
 ∀(ι0:Inj) (w0:Base) (ι:Inj) (a:Act) (w:World),Inv n ι0 w0 ι s a w->c.wp P (Post n ι0 w0 b) a w
def mA(P:Program)(n:Nat)(L:List Sub):AC->Prop
 | .seq a b | .cond _ a b=>mA P n L a/\mA P n L b
 | .block _ a | .scope a | .loop a=>mA P n L a
 | .sub m c=>∀(α:Type) (s:St) (k:Ex->St->Option α) (z:α),C0 α m s k L=some z->SemC P n c.code s λex s'=>k ex s'=some z
 | _=>True
def Fr.trans{ι0 J:Inj}{w0 w w':World}(h:Fr ι0 w0 w)(M:∀b q,J b=some (some q)->(∃F,ι0 b=some (some F)/\F.r=q.r)\/w0.heap.size<=q.r)(A:Fr J w w'):Fr ι0 w0 w':=by
 refine⟨A.os.trans h.os,A.tape.trans h.tape,A.output.trans h.output,ow h.size A.size,λk C E=>?_⟩;rw[A.blk k (lH C h.size) ?_,h.blk k C E];intro b q O;rcases M b q O with⟨F,G,Q⟩ | G
 ·rw[<-Q];exact E b F G
 ·omega
def lk(a:Act)(d:Option Nat)(v:Value):(a.put d v).tmps.size=a.tmps.size:=by
 cases d<;>simp[Act.put]
def il(a:Act)(d:Option Nat)(v:Value):(a.put d v).defers=a.defers:=by
 cases d<;>rfl
def TR.app{ι:Inj}{s:St}{a:Act}{n:Nat}{d:Option Nat}{v:Option V}{x:Value}{wr:List (Nat×Blk)}{nb:Nat}(A:TR ι s.T a.tmps)(hs:a.tmps.size=n)(E:qu n d=true)
  (C:∀u,v=some u->VR ι u x):TR ι (s.app d v wr nb).T (a.put d x).tmps:=by
 cases d with
 | none=>exact A
 | some d=>exact A.put (by rw[hs];exact aJ E) C
def Inv.drawn{n:Nat}{ι0 ι:Inj}{w0:Base}{s:St}{a:Act}{w:World}(h:Inv n ι0 w0 ι s a w)(m:Nat):Inv n ι0 w0 ι s a { w with drawn:=m }:=
 ⟨h.size,h.defers,h.tmps,h.mem.draws m,h.ext,h.new,h.fr.draws m,h.low,h.fz,h.gl⟩
def Bq {n fr:Nat} {ι0 ι:Inj} {w0:Base} {s:St} {o:Oper} {a:Act} {w:World} {e:Eff} (f:Inv n ι0 w0 ι s a w) (H:ι fr=none) (z:qu n o.dst=true)
  (h:eO P ι fr o a w e) (m:e.new=false->∀G,e.wr=some G->s.ro<=G.1) {next:Act->World->Prop} {Q:Exit->Act->World->Prop}
  (E:∀g I w',(∀b,b≠fr->g b=ι b)->(e.new=false\/e.wr=none->g fr=ι fr)->
   Inv n ι0 w0 g (s.app o.dst e.val e.wr.toList (if e.new=true/\e.wr≠none then max s.nb (fr+1) else s.nb)) I w'->next I w'):
  o.wp P a w next Q:=by
 have fin:∀{x:Next} {w':World} {g:Inj},(execOp a.eval o).run P w=.ok x w'->NextR g e.val x->(∀y,(∀u,e.val=some u->VR g u y)->next (a.put o.dst y) w')->o.wp P a w next Q:=by
  intro x w' g A hx hy;unfold Oper.wp;rw [A];cases hx with
  | skip D=>exact hy _ (λu K=>by rw [D] at K;cases K)
  | value x D=>exact hy _ D
 unfold eO at h;split at h
 ·rename_i k;obtain ⟨x,v,l⟩:=h;refine fin v l λy hy=>E ι _ _ (λ_ _=>rfl) (λ_=>rfl) ?_;rw [k];simp only [ne_eq,qm,and_false,aG];exact ⟨by rw [lk];exact f.size,by rw [il];exact f.defers,f.tmps.app f.size z hy,f.mem,f.ext,f.new,f.fr,f.low,f.fz,f.gl⟩
 ·rename_i b blk k;split at h
  ·rename_i i;obtain ⟨r,v,L⟩:=h;have t:r.fz=false:=by
    cases hc:r.fz with
    | false=>rfl
    | true=>have:=f.fz b r v hc;have:=m i _ k;simp only at this;omega
   obtain ⟨ob,x,l,F,C⟩:=L t;refine fin l C λy hy=>E ι _ _ (λ_ _=>rfl) (λ_=>rfl) ?_;rw [k,i];simp only [cj,tD,aG];refine ⟨by rw [lk];exact f.size,by rw [il];exact f.defers,f.tmps.app f.size z hy,f.mem.write v t F,f.ext,f.new,?_,f.low,f.fz,f.gl⟩;exact f.fr.write ((f.new b r v).imp (λ⟨M,h,A⟩=>⟨b,M,Cm h (m i _ k),A⟩) id) _
  ·rename_i i;obtain ⟨rfl,d,q,ob,x,l,J,B,F,C⟩:=h;have j:=mj (r:=some q) H;refine fin l C λy hy=>E (upd ι b (some q)) _ _ (λc hc=>by simp [upd,hc]) (λhc=>by rw [i,k] at hc;simp at hc) ?_;rw [k,i];simp only [ne_eq,reduceCtorEq,yU,and_self,bc]
   refine ⟨by rw [lk];exact f.size,by rw [il];exact f.defers,(f.tmps.mono j).app f.size z hy,(f.mem.draws d).alloc H (by simp only [St.app];omega) (by simp only [St.app];omega) J F,λc q hc=>(f.ext c q hc).imp (j _ _) id,λc q hc=>?_,(f.fr.draws d).alloc ob,f.low,λc p hc hp=>by
    unfold upd at hc;split at hc
    ·simp only [aq] at hc;subst hc;rw [B] at hp;cases hp
    ·exact f.fz c p hc hp,f.gl⟩
   unfold upd at hc;split at hc
   ·simp only [aq] at hc;subst hc;exact .inr (by rw [J];exact f.fr.size)
   ·exact f.new c q hc
def Inv.phantom'{n:Nat}{ι0 ι:Inj}{w0:Base}{s:St}{a:Act}{w:World}(C:Inv n ι0 w0 ι s a w){g:Nat}(Z:ι g=none){nb:Nat}(M:s.nb<=nb)(W:g<nb)(tr:List Lf):
  Inv n ι0 w0 (upd ι g none) { T:=s.T,H:=(g,.rows tr [])::s.H,nb:=nb,lo:=s.lo,ro:=s.ro,rb:=s.rb } a w:=by
 have F:=mj (r:=none) Z;have E:∀b,b≠g->upd ι g none b=ι b:=λb G=>by simp[upd,G]
 have A:∀b q,upd ι g none b=some (some q)->ι b=some (some q):=by
  intro b q h;by_cases G:b=g
  ·subst G;rw[cH]at h;cases h
  ·rwa[E b G]at h
 refine⟨C.size,C.defers,C.tmps.mono F,⟨λb Q q q' Y U=>C.mem.inj b Q q q' (A _ _ Y) (A _ _ U),λb q e=>?_,λb q e=>C.mem.dom b q (A _ _ e),λb y J X=>?_⟩,
  λb q e=>(C.ext b q e).imp (F _ _) id,λb q e=>C.new b q (A _ _ e),C.fr,C.low,λb q e=>C.fz b q (A _ _ e),C.gl⟩
 ·by_cases G:b=g
  ·subst G;exact W
  ·rw[E b G]at e;exact lH (C.mem.low b q e) M
 ·rw[aO]at J;split at J
  ·rename_i e;subst e;simp only[aq]at J;subst J;exact .inr ⟨cH _ _ _,tr,rfl⟩
  ·rename_i O;exact(C.mem.blk b y J X).map (E b (λe=>O e.symm)) (λ_ _=>rfl) (λ_ _ h=>BR.mono F h) (λ_ h=>h)
def Inv.setnb{n:Nat}{ι0 ι:Inj}{w0:Base}{s:St}{a:Act}{w:World}(A:Inv n ι0 w0 ι s a w){nb:Nat}(h:s.nb<=nb):
  Inv n ι0 w0 ι { T:=s.T,H:=s.H,nb:=nb,lo:=s.lo,ro:=s.ro,rb:=s.rb } a w:=
 ⟨A.size,A.defers,A.tmps,⟨A.mem.inj,λb q e=>lH (A.mem.low b q e) h,A.mem.dom,A.mem.blk⟩,A.ext,A.new,A.fr,A.low,A.fz,A.gl⟩
def I8{ι:Inj}{g:Nat}(a:ι g=some none){x:Value}(h:VR ι .sn x):VR ι (.ws g) x:=by
 simp only[VR]at h ⊢;exact .inr ⟨a,none,h⟩
def wS:∀(ns:List (Nat×List Lf)) (g:Nat) (l:List V) (acc:List (Nat×Blk)) (p:List V) (H:List (Nat×Blk)),nilL g ns l acc=(p,H)->∃k,H=k++acc/\
  ∀{n:Nat} {ι0 ι:Inj} {w0:Base} {s:St} {a:Act} {w:World},Inv n ι0 w0 ι s a w->(∀b,g<=b->b<g+k.length->ι b=none)->∀nb,s.nb<=nb->(k=[]\/g+k.length<=nb)->
   ∃c,(∀b,(b<g\/g+k.length<=b)->c b=ι b)/\(∀b q,ι b=some q->c b=some q)/\(∀m,VRs c l m->VRs c p m)/\
    Inv n ι0 w0 c { T:=s.T,H:=k++s.H,nb:=nb,lo:=s.lo,ro:=s.ro,rb:=s.rb } a w
 | [],g,l,acc,p,H,h=>by
  simp only[nilL,cJ]at h;obtain⟨rfl,rfl⟩:=h;exact⟨[],rfl,λ{n ι0 ι w0 s a w} z d nb A u=>⟨ι,λ_ _=>rfl,λ_ _ h=>h,λ_ h=>h,z.setnb A⟩⟩
 | (i,tr)::r,g,l,acc,p,H,h=>by
  simp only[nilL]at h;split at h
  ·rename_i hi;obtain⟨v,rfl,E⟩:=wS r (g+1) _ _ _ _ h;refine⟨v++[(g,.rows tr [])],by simp,λ{n ι0 ι w0 s a w} z d nb A u=>?_⟩;have o:(v++[((g,.rows tr []):Nat×Blk)]).length=v.length+1:=by simp
   rw[o]at d u ⊢;have u:g+(v.length+1)<=nb:=u.resolve_left (by simp);have B:=d g (aV _) (by omega);have t:=mj (r:=none) B
   obtain⟨c,k1,k2,k3,F⟩:=E (z.phantom' B A (by omega) tr) (λb I G=>by
    have:upd ι g none b=ι b:=by simp[upd,show b≠g by omega]
    rw[this];exact d b (by omega) (by omega)) nb (aV _) (.inr (by omega))
   refine⟨c,λb C=>?_,λb q C=>k2 b q (t b q C),λm hx=>k3 m ?_,by simpa using F⟩
   ·rw[k1 b (by omega)];simp[upd,show b≠g by omega]
   ·obtain⟨x,f,y⟩:=hx.get hi;have:=hx.set i (I8 (g:=g) (k2 _ _ (cH _ _ _)) y);rwa[show m.set i x=m from by
     apply vh;intro j;rw[List.getElem?_set];split
     ·rename_i e;subst e;split
      ·exact f.symm
      ·rename_i D;rw[dX (by omega)]at f;cases f
     ·rfl]at this
  ·exact wS r g l acc p H h
def Kp{α:Type}(l m:List (Nat×α))(n:Nat):look (l++m) n=(look l n).or (look m n):=by
 induction l with
 | nil=>rfl
 | cons x l ih=>
  obtain⟨k,v⟩:=x;rw[kL,aO,aO,ih];split<;>rfl
def Inv.reH{n:Nat}{ι0 ι:Inj}{w0:Base}{T:List (Nat×Option V)}{A B:List (Nat×Blk)}{b nb lo ro rb:Nat}{l O:List V}{a:Act}{w:World}
  (E:Inv n ι0 w0 ι ⟨T,A++(b,.cells l)::B,nb,lo,ro,rb⟩ a w) (h:∀G,VRs ι l G->VRs ι O G):Inv n ι0 w0 ι ⟨T,A++(b,.cells O)::B,nb,lo,ro,rb⟩ a w:=by
 refine⟨E.size,E.defers,E.tmps,⟨E.mem.inj,E.mem.low,E.mem.dom,λc y hc J=>?_⟩,E.ext,E.new,E.fr,E.low,E.fz,E.gl⟩;have C:=E.mem.blk c;rw[Kp,aO]at hc C;cases M:look A c with
 | some z=>rw[M]at hc C;exact C y hc J
 | none=>
  rw[M]at hc C;simp only[zS]at hc C;split at hc
  ·rename_i e;rw[ad e]at C;simp only[aq]at hc;subst hc;rcases C _ rfl (by simp)with⟨q,o,X,F,Q⟩ | ⟨_,t,F⟩
   ·obtain⟨Z,U,fr,Y,W,g3⟩:=Q;exact .inl ⟨q,o,X,F,Z,U,fr,Y,h _ W,g3⟩
   ·cases F
  ·rename_i e;rw[ab e]at C;exact C y hc J
def Inv.reT{n:Nat}{ι0 ι:Inj}{w0:Base}{s:St}{wr:List (Nat×Blk)}{d:Option Nat}{nb:Nat}{v F:V}{a:Act}{w:World}
  (C:Inv n ι0 w0 ι (s.app d (some v) wr nb) a w) (h:∀x,VR ι v x->VR ι F x):Inv n ι0 w0 ι (s.app d (some F) wr nb) a w:=by
 refine⟨C.size,C.defers,?_,C.mem,C.ext,C.new,C.fr,C.low,C.fz,C.gl⟩;have G:=C.tmps;cases d with
 | none=>exact G
 | some d=>
  intro t u E;have A:=G t;simp only[St.app,aO]at E A;split at E
  ·rename_i e;rw[ad e]at A;simp only[aq]at E;subst E;obtain⟨x,M,J⟩:=A v rfl;exact⟨x,M,h x J⟩
  ·rename_i e;rw[ab e]at A;exact A u E
def KZ{P:Program}{t:TypeId}{g:Nat}{v o:V}{f:List (Nat×Blk)}(h:nilV P t g v=(o,f)){n:Nat}{ι0 ι:Inj}{w0:Base}{s:St}{d:Option Nat}{nb0:Nat}{a:Act}{w:World}
  (p:Inv n ι0 w0 ι (s.app d (some v) [] nb0) a w) (k:∀b,g<=b->b<g+f.length->ι b=none) {nb:Nat} (q:nb0<=nb) (m:f=[]\/g+f.length<=nb):
  ∃c,(∀b,(b<g\/g+f.length<=b)->c b=ι b)/\Inv n ι0 w0 c (s.app d (some o) f nb) a w:=by
 have j:(v,([]:List (Nat×Blk)))=(o,f)->∃c,(∀b,(b<g\/g+f.length<=b)->c b=ι b)/\Inv n ι0 w0 c (s.app d (some o) f nb) a w:=by
  intro e;simp only[cJ]at e;obtain⟨rfl,rfl⟩:=e;exact⟨ι,λ_ _=>rfl,p.setnb q⟩
 unfold nilV at h;split at h
 ·split at h
  ·rename_i i tr r H;simp only[cJ]at h;obtain⟨rfl,rfl⟩:=h;have y:=k g (aV _) (by simp);have m:g+1<=nb:=by simpa using m
   have:=p.phantom' y q m tr;exact⟨upd ι g none,λb C=>by simp only[y6]at C;simp[upd,show b≠g by omega],Inv.reT (s:=s) (wr:=[(g,.rows tr [])]) (v:=.sn) this λx hx=>I8 (cH _ _ _) hx⟩
  ·exact j h
 ·rename_i l;split at h;rename_i G D u;simp only[cJ]at h;obtain⟨rfl,rfl⟩:=h;obtain⟨I,e,z⟩:=wS _ _ _ _ _ _ u;rw[vv]at e;subst e;obtain⟨c,k1,k2,k3,A⟩:=z p k nb q m;refine⟨c,k1,Inv.reT (s:=s) (wr:=D) (v:=.ag l) A λx hx=>?_⟩;simp only[VR]at hx ⊢;obtain⟨F,E,B⟩:=hx;exact⟨F,E,k3 _ B⟩
 ·exact j h
def La(nb fr:Nat):∀g,g=0\/fr+g<=nbOf nb fr g
 | 0=>.inl rfl
 | _+1=>.inr (Nat.le_max_right _ _)
def zp{P:Program}{fr:Nat}{o:Oper}{e:Eff}{v:Option V}{wr:List (Nat×Blk)}{g:Nat}(h:uP P fr o e=(v,wr,g))(c:g=0):e.new=false\/e.wr=none:=by
 unfold uP at h;split at h
 ·rename_i a;exact .inr a
 ·split at h
  ·rename_i b;exact .inl b
  ·split at h
   ·split at h;simp only[cJ]at h;omega
   ·simp only[cJ]at h;omega
def eO.new_eq{ι:Inj}{f:Nat}{o:Oper}{a:Act}{w:World}{e:Eff}(h:eO P ι f o a w e){A:Nat×Blk}(C:e.wr=some A)(E:e.new=true):A.1=f:=by
 unfold eO at h;rw[C]at h;simp only[E]at h;exact h.1
def Ej{P:Program}{fr:Nat}{o:Oper}{e:Eff}{v:Option V}{wr:List (Nat×Blk)}{g:Nat}(h:uP P fr o e=(v,wr,g)){n:Nat}{ι0 ι:Inj}{w0:Base}{s:St}{nb0 nb:Nat}{a:Act}{w:World}
  (j:Inv n ι0 w0 ι (s.app o.dst e.val e.wr.toList nb0) a w) (p:∀b,fr<=b->b<fr+g->(b=fr->e.wr=none)->ι b=none) (L:∀m,e.wr=some m->e.new=true->m.1=fr) (z:nb0<=nb) (D:g=0\/fr+g<=nb):
  ∃f,(∀b,(b<fr\/fr+g<=b)->f b=ι b)/\Inv n ι0 w0 f (s.app o.dst v wr nb) a w:=by
 have i:(e.val,e.wr.toList)=(v,wr)->∃f,(∀b,(b<fr\/fr+g<=b)->f b=ι b)/\Inv n ι0 w0 f (s.app o.dst v wr nb) a w:=by
  intro e;simp only[cJ]at e;obtain⟨rfl,rfl⟩:=e;exact⟨ι,λ_ _=>rfl,j.setnb z⟩
 unfold uP at h;split at h
 ·rename_i k;rw[k]at j i;split at h
  ·rename_i t u N G;split at h;rename_i R H I;simp only[cJ]at h;obtain⟨rfl,rfl,rfl⟩:=h;rw[G]at j;obtain⟨f,k1,k2⟩:=KZ I (d:=o.dst) (s:=s) j (λb x E=>p b x E λ_=>k) z (D.imp (λh=>sN h) id);exact⟨f,k1,k2⟩
  ·simp only[cJ]at h;exact i (by simp[h.1,h.2.1])
 ·rename_i m k;rw[k]at i;split at h
  ·simp only[cJ]at h;exact i (by simp[h.1,h.2.1])
  ·rename_i y;split at h
   ·rename_i t l M r;split at h;rename_i O H F;simp only[cJ]at h;obtain⟨rfl,rfl,rfl⟩:=h;obtain⟨T,C,J⟩:=wS _ _ _ _ _ _ F;rw[vv]at C;subst C;rw[k]at j;have x:=L m k y;obtain⟨b,blk⟩:=m;simp only at r x;subst r x;obtain⟨f,k1,k2,k3,K⟩:=J j (λc S Q=>p c (by omega) (by omega) (λq=>by omega)) nb z (D.elim (λh=>by omega) λh=>.inr (by omega));refine⟨f,λc hc=>k1 c (by omega),?_⟩;have:=Inv.reH (A:=H) (B:=s.H) (b:=b) K k3;simpa[St.app]using this
   ·simp only[cJ]at h;exact i (by simp[h.1,h.2.1])
def L9{ι:Inj}{T:List (Nat×Option V)}{a:Act}(c:TR ι T a.tmps){g:Operand}{f:Nat}{cap:List V}(h:opd T g=some (.fn f cap)):
  ∃b:Array Value,a.eval g=fnV f b/\VRs ι cap b.toList:=by
 have:=aZ c h;simpa only[VR]using this
def uR{wr:List (Nat×Blk)}{ι:Inj}{b:Nat}{r:Option Rf}(h:qS wr ι b=some r):∃x∈wr,x.1=b:=by
 unfold qS at h;split at h
 ·rename_i c;obtain⟨x,hx,a⟩:=oh.1 c;exact⟨x,hx,be a⟩
 ·cases h
def xj(wr:List (Nat×Blk))(ι:Inj):∀b r,qS wr ι b=some r->ι b=some r:=by
 intro b r h;unfold qS at h;split at h
 ·exact h
 ·cases h
def Hq{K f:Nat}{ι:Inj}{o:Oper}{a:Act}{g:Operand}{args:Array Operand}{d:Array TypeId}{c:Array Value}{cap l:List V}(i:o.op=.call ⟨.value g,args,d⟩)
  (b:a.eval g=fnW K f c) (h:VRs ι cap c.toList) (e:VRs ι l (args.toList.map a.eval)) (w:World):
  ∃as:Array Value,VRs ι (fnAW K f l cap) as.toList/\(execOp a.eval o).run P w=(callFunc (fnFW K f) as).run P w:=by
 unfold fnAW fnFW;unfold fnW at b;cases j:Nat.blt f K<;>rw[j]at b<;>simp only at b ⊢
 ·refine⟨c++args.map a.eval,by simpa using h.append e,?_⟩;simp only[execOp,i,resolve,b,Deferred.ofValue,Array.append_empty,ax,aA,az,invoke]
 ·refine⟨args.map a.eval++c,by simpa using e.append h,?_⟩;simp only[execOp,i,resolve,b,Deferred.ofValue,Array.empty_append,ax,aA,az,invoke]
def wm{n fr:Nat}{ι0 ι:Inj}{w0:Base}{s:St}{o:Oper}{a:Act}{w:World}{g:Operand}{args:Array Operand}{tys:Array TypeId}{f:Nat}{cap l:List V}{r:CR}
  (ho:o.op=.call ⟨.value g,args,tys⟩) (d:Inv n ι0 w0 ι s a w) (G:∀b,fr<=b->b<fr+r.grow->ι b=none) (hd:qu n o.dst=true)
  (hg:opd s.T g=some (.fn f cap)) (hl:opds (opd s.T) args.toList=some l) (B:r.wr.all (λx=>Nat.ble s.ro x.1)=true)
  (A:r.kill.all (λb=>Nat.ble s.rb b)=true) (hc:GoOK P (fnF f) (fnA f l cap) s.H fr r)
  {next:Act->World->Prop} {Q:Exit->Act->World->Prop}
  (Z:r.pan=false->∀i a' w',(∀b,isIn r.kill b=false->(b<fr\/fr+r.grow<=b)->i b=ι b)->Inv n ι0 w0 i ((s.kill r.kill).app o.dst (some r.val) r.wr (max s.nb (fr+r.grow))) a' w'->next a' w')
  (hp:r.pan=true->∀i x w',VR i r.val x->Inv n ι0 w0 i ((s.kill r.kill).app none none r.wr (max s.nb (fr+r.grow))) a w'->Q (.panic [{ v:=x,recovered:=false }]) a w'):
  o.wp P a w next Q:=by
 obtain⟨cs,h1,h2⟩:=L9 d.tmps hg;have h3:=sS d.tmps hl;obtain⟨as,J,z⟩:=Hq (P:=P) ho (show a.eval g=fnW 1000000 f cs from h1) h2 h3 w;rcases hc with⟨hE,hc⟩ | ⟨a1,a2,a3,a4,L⟩
 case inr=>
  obtain⟨x,C,hx⟩:=L ι w as J;have k:(execOp a.eval o).run P w=.ok (.value x) w:=by rw[z];exact C
  unfold Oper.wp;rw[k];refine Z a1 ι _ _ (λ_ _ _=>rfl) ?_;rw[a2,a3,a4,eJ];refine⟨by rw[lk];exact d.size,by rw[il];exact d.defers,TR.app (s:=s) d.tmps d.size hd (λu W=>by cases W;exact hx),?_,d.ext,d.new,d.fr,d.low,d.fz,d.gl⟩;exact⟨d.mem.inj,λb q E=>lH (d.mem.low b q E) (y9 _ _),d.mem.dom,d.mem.blk⟩
 have k:(execOp a.eval o).run P w=.ok (.enter (fnF f) as) w:=by rw[z];exact hE _ _
 unfold Oper.wp;rw[k];simp only[Oper.upon];refine(hc ι s.nb w as d.mem (d.glHere λb q j=>by
  obtain⟨x,hx,rfl⟩:=uR j;exact⟨xj r.wr ι x.1 _ j,aJ (ch.1 B x hx)⟩) (λx hx q E=>by
  cases hc:q.fz with
  | false=>rfl
  | true=>have:=d.fz x.1 q E hc;have:=aJ (ch.1 B x hx);omega) (λb hb1 hb2=>G b hb1 (by omega)) J).mono λe w' h=>?_
 obtain⟨i,X,g0,g2,g6,g3,g4,M⟩:=h;have I:∀b q,i b=some (some q)->q.fz=true->b<s.ro:=λb q j E=>d.fz b q (g6 b q j E) E;have K:∀b,isIn r.kill b=true->s.rb<=b:=by
  intro b j;obtain⟨c,S,R⟩:=oh.1 j;rw[be R];exact aJ (ch.1 A c S)
 have y:∀b,isIn r.kill b=false->∀q,ι b=some q->i b=some q:=by
  intro b D q j;rw[X b D ?_];exact j;rcases aI b fr with h | h
  ·exact .inl h
  ·rcases aI b (fr+r.grow)with h' | h'
   ·have:=G b h (by omega);rw[this]at j;cases j
   ·exact .inr h'
 have m:∀b q,ι0 b=some q->i b=some q\/s.rb<=b:=by
  intro b q j;rcases d.ext b q j with h | h
  ·cases D:isIn r.kill b with
   | true=>exact .inr (K b D)
   | false=>exact .inl (y b D q h)
  ·exact .inr h
 have p:∀b q,i b=some (some q)->(∃F,ι0 b=some (some F)/\F.r=q.r)\/w0.w.heap.size<=q.r:=by
  intro b q j;cases D:isIn r.kill b with
  | true=>
   rcases g0 b q D j with⟨F,h6,h7⟩ | h6
   ·rw[<-h7];exact d.new b F h6
   ·exact .inr (ow d.fr.size h6)
  | false=>
   by_cases O:b<fr\/fr+r.grow<=b
   ·rw[X b D O]at j;exact d.new b q j
   ·have:=g2 b q (by omega) (by omega) j;exact .inr (ow d.fr.size this)
 have t:Fr (roI ι0 s.ro) w0.w w':=d.fr.trans (λb q j=>by
  obtain⟨x,hx,rfl⟩:=uR j;have h1:=aJ (ch.1 B x hx);exact(d.new x.1 q (xj r.wr ι x.1 _ j)).imp (λ⟨F,h,hr⟩=>⟨F,Cm h h1,hr⟩) id) g4
 have hT:=d.tmps.kill y;rw[St.kill_eq]at Z hp;cases e with
 | returned x=>
  obtain⟨N,Y⟩:=M;refine Z N i _ _ X ⟨by rw[lk];exact d.size,by rw[il];exact d.defers,TR.app (s:={ T:=qZ r.kill s.T,H:=wb r.kill s.H,nb:=s.nb,lo:=s.lo,ro:=s.ro,rb:=s.rb }) hT d.size hd (λu W=>by cases W;exact Y),g3,m,p,t,d.low,I,d.gl⟩
 | panicked U=>
  obtain⟨N,x,rfl,Y⟩:=M;exact hp N i x _ Y ⟨d.size,d.defers,hT,g3,m,p,t,d.low,I,d.gl⟩
 | outgrown=>exact M.elim
def u0{c:Bool}{P:Program}{fr:Nat}{o:Oper}{e:Eff}{v:Option V}{wr:List (Nat×Blk)}{g:Nat}(h:qt c P fr o e=(v,wr,g)):uP P fr o e=(v,wr,g)\/(e.val,e.wr.toList,LJ e)=(v,wr,g):=by
 unfold qt at h;split at h;rename_i d b f a;split at h
 ·exact .inl (a.trans h)
 ·split at h
  ·exact .inr h
  ·exact .inl (a.trans h)
def qQ{d:Bool}{P:Program}{fr:Nat}{o:Oper}{e:Eff}{v:Option V}{wr:List (Nat×Blk)}{g:Nat}(h:qt d P fr o e=(v,wr,g))(a:g=0):e.new=false\/e.wr=none:=by
 rcases u0 h with h | h
 ·exact zp h a
 ·simp only[cJ]at h;have h:=h.2.2;rw[a]at h;unfold LJ at h;split at h
  ·rename_i c;exact .inr c
  ·left;cases b:e.new with
   | false=>rfl
   | true=>rw[b]at h;cases h
def Dq{a:Bool}{P:Program}{fr nb:Nat}{o:Oper}{e:Eff}{v:Option V}{wr:List (Nat×Blk)}{g:Nat}(h:qt a P fr o e=(v,wr,g)):
  (if e.new=true/\e.wr≠none then max nb (fr+1)else nb)<=nbOf nb fr g:=by
 cases g with
 | zero=>
  have:=qQ h rfl;rw[ab (λhc=>by rcases this with h | h;rw[h]at hc;cases hc.1;exact hc.2 h)];exact aV _
 | succ g=>
  simp only[nbOf];split<;>omega
def vn{m:Bool}{P:Program}{fr:Nat}{o:Oper}{e:Eff}{v:Option V}{wr:List (Nat×Blk)}{g:Nat}(h:qt m P fr o e=(v,wr,g)){n:Nat}{ι0 ι:Inj}{w0:Base}{s:St}{nb0 nb:Nat}{a:Act}{w:World}
  (i:Inv n ι0 w0 ι (s.app o.dst e.val e.wr.toList nb0) a w) (d:∀b,fr<=b->b<fr+g->(b=fr->e.wr=none)->ι b=none) (k:∀f,e.wr=some f->e.new=true->f.1=fr) (j:nb0<=nb) (l:g=0\/fr+g<=nb):
  ∃c,(∀b,(b<fr\/fr+g<=b)->c b=ι b)/\Inv n ι0 w0 c (s.app o.dst v wr nb) a w:=by
 rcases u0 h with h | h
 ·exact Ej h i d k j l
 ·simp only[cJ]at h;obtain⟨rfl,rfl,_⟩:=h;exact⟨ι,λ_ _=>rfl,i.setnb j⟩
def AY{α:Type}{E:List Ent}(hE:∀x∈E,ib P x){n fr:Nat}{ι0 ι:Inj}{w0:Base}{s:St}{o:Oper}{a:Act}{w:World}(I:Inv n ι0 w0 ι s a w)
  (D:∀b,fr<=b->b<fr+8->ι b=none) {k:St->List Nat->List (Nat×Blk)->Nat->Option α} {kp:V->St->Option α} {z:α} (h:yE P E n fr o s k kp=some z)
  {next:Act->World->Prop} {Q:Exit->Act->World->Prop}
  (hn:∀s' rd wr g c m w',k s' rd wr g=some z->(∀b,(b<fr\/fr+g<=b)->c b=ι b)->Inv n ι0 w0 c s' m w'->next m w')
  (hp:∀v s' c x m w',kp v s'=some z->VR c v x->Inv n ι0 w0 c s' m w'->Q (.panic [{ v:=x,recovered:=false }]) m w'):
  o.wp P a w next Q:=by
 have U:ι fr=none:=D fr (aV _) (by omega);unfold yE at h;split at h
 ·cases h
 rename_i hd;have K:qE P (vT E) fr o s k=some z->o.wp P a w next Q:=by
  intro h;unfold qE at h;obtain⟨e,R,J⟩:=Gx I.tmps I.mem U h;split at R;rename_i v wr g A;split at R
  case h_2=>cases R
  rename_i M;simp only[aC]at M;have W:=aJ M.2;have F:∀N,e.wr=some N->e.new=true->N.1=fr:=λN Z G=>eO.new_eq J Z G;refine Bq I U hd J (λG N Z=>by
   have:=M.1;unfold roOK at this;rw[Z]at this;simp only[G]at this;exact aJ this) λc m w' C g2 d=>?_
  obtain⟨Y,k1,k2⟩:=vn A d (λb T e2 e3=>by
   by_cases j:b=fr
   ·subst j;rw[g2 (.inr (e3 rfl))];exact U
   ·rw[C b j];exact D b T (by omega)) F (nb:=nbOf s.nb fr g) (Dq A) (La s.nb fr g)
  refine hn _ _ _ _ Y m w' R (λb S=>?_) k2;rw[k1 b S];by_cases j:b=fr
  ·subst j;refine g2 (qQ A (by omega))
  ·exact C b j
 split at h
 ·rename_i cl u;split at h
  ·rename_i g q;split at h
   ·rename_i f cap hg;obtain⟨l,hl,h⟩:=av h;obtain⟨r,H,h3⟩:=rI hE h;split at H
    ·cases H
    rename_i p;simp only[aC]at p;have B:r.kill=[]:=by simpa using p.2.2
    have W:=aJ p.1;obtain⟨O,args,tys⟩:=cl;simp only at q;subst q;refine wm u I (λb T e2=>D b T (by omega)) hd hg hl p.2.1 (by rw[B];rfl) (h3 _ λ_ _=>rfl) (λi c m w' C d=>?_) (λi c x w' C d=>?_)
    ·rw[i]at H;rw[B]at C d;exact hn _ _ _ _ c m w' H (λb M=>C b rfl M) d
    ·rw[i]at H;rw[B]at d;exact hp _ _ c x a w' H C d
   ·cases h
  ·exact K h
 ·rename_i x u;split at h
  ·rename_i t v hx;have X:=aZ I.tmps hx;have hv':=X;simp only[VR]at X;obtain⟨y,h6,_⟩:=X;unfold Oper.wp;have L:(execOp a.eval o).run P w=.halt (.panic (.iface t y)) w:=by
    simp only[execOp,u,h6,Instr.panic,ax,run_goPanic,Result.andThen_halt]
   rw[L];exact hp _ _ ι _ a w h (h6▸hv') I
  ·cases h
 ·exact K h
def TR.again{ι:Inj}{T:List (Nat×Option V)}{C:Array Value}(E:TR ι T C){d:Nat}{v:V}(F:look T d=some (some v)):TR ι ((d,some v)::T) C:=by
 intro t u A;rw[aO]at A;split at A
 ·rename_i e;subst e;simp only[aq]at A;subst A;exact E d v F
 ·exact E t u A
def Inv.again{n:Nat}{ι0 ι:Inj}{w0:Base}{s:St}{a:Act}{w:World}(h:Inv n ι0 w0 ι s a w){d:Nat}{v:V}(A:look s.T d=some (some v)):
  Inv n ι0 w0 ι { s with T:=(d,some v)::s.T } a w:=
 ⟨h.size,h.defers,h.tmps.again A,h.mem,h.ext,h.new,h.fr,h.low,h.fz,h.gl⟩
def nO{ops:List Oper}{j d:Nat}(h:gtmp ops j=some d)(a:Array Value):
  yielded ops.toArray a j=match a[d]? with | some (.bool b)=>some b | _=>none:=by
 unfold gtmp at h;split at h
 ·rename_i o c;have:(ops.toArray[j]?).bind (·.dst)=some d:=by simp[c,h]
  unfold yielded;rw[this];rfl
 ·cases h
def F5{α:Type}{n:Nat}{ι0 ι:Inj}{w0:Base}{ops:List Oper}{o:Oper}{s:St}{a:Act}{w:World}(f:Inv n ι0 w0 ι s a w){k:Bool->St->Option α}{z:α}
  (h:sR ops o s k=some z):∃c s',k c s'=some z/\Inv n ι0 w0 ι s' a w/\Region.wanted o (yielded ops.toArray a.tmps)=c/\(∀t,look s'.T t=look s.T t)/\s'.H=s.H/\s'.nb=s.nb:=by
 unfold sR at h;split at h
 ·rename_i i;exact⟨true,s,h,f,by simp[Region.wanted,i],λ_=>rfl,rfl,rfl⟩
 ·rename_i j c i;split at h
  case h_2=>cases h
  rename_i d m;have hy:=nO m a.tmps;have again:∀x,look s.T d=some (some (.b x))->∀t,look ((d,some (V.b x))::s.T) t=look s.T t:=by
   intro x hx t;rw[aO];split
   ·rename_i e;subst e;exact hx.symm
   ·rfl
  split at h
  ·rename_i x hx;obtain⟨y,l,g⟩:=f.tmps d _ hx;simp only[VR]at g;subst g;rw[l]at hy;cases x
   ·exact⟨!c,_,h,f.again hx,by cases c<;>simp[Region.wanted,i,hy],again _ hx,rfl,rfl⟩
   ·exact⟨c,_,h,f.again hx,by cases c<;>simp[Region.wanted,i,hy],again _ hx,rfl,rfl⟩
  ·rename_i hx;obtain⟨y,l,g⟩:=f.tmps d _ hx;simp only[VR]at g;obtain⟨p,rfl,_⟩:=g;rw[l]at hy;exact⟨false,s,h,f,by simp[Region.wanted,i,hy],λ_=>rfl,rfl,rfl⟩
  ·cases h
def IP(ι:Inj):VR ι (.tp []) undef:=by
 simp only[VR];exact⟨#[],rfl,by simp[VRs]⟩
def Inv.skip{n:Nat}{ι0 ι:Inj}{w0:Base}{s:St}{a:Act}{w:World}(h:Inv n ι0 w0 ι s a w){d:Option Nat}(C:qu n d=true):
  Inv n ι0 w0 ι (s.app d (some (.tp [])) [] s.nb) (a.put d undef) w:=
 ⟨by rw[lk];exact h.size,by rw[il];exact h.defers,h.tmps.app h.size C (λu A=>by cases A;exact IP ι),h.mem,h.ext,h.new,h.fr,h.low,h.fz,h.gl⟩
def Inv.fresh{n:Nat}{ι0 ι:Inj}{w0:Base}{s:St}{a:Act}{w:World}(h:Inv n ι0 w0 ι s a w):∀b,s.nb<=b->ι b=none:=by
 intro b A;cases hi:ι b with
 | none=>rfl
 | some r=>have:=h.mem.low b r hi;omega
end Go.Abs
