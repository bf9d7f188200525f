
import Derived.Test.YtibehcmomiplnaaGreatDoorAbsI
set_option linter.unusedSimpArgs false
set_option linter.unusedVariables false
set_option linter.defProp false
namespace Go.Abs
variable {P:Program}
def lC(P:Program)(f:Nat):Prop:=∀(args:Array Value) (w:World),(callFunc f args).run P w=.ok (.enter f args) w
def RetR(ι:Inj)(r:CR):Ending->Prop
 | .returned x=>r.pan=false/\VR ι r.val x
 | .panicked a=>r.pan=true/\∃x,a=[{ v:=x,recovered:=false }]/\VR ι r.val x
 | .outgrown=>False
def wb(wr:List (Nat×Blk))(ι:Inj):Inj:=λb=>if wr.any (λx=>Nat.beq x.1 b)then ι b else none
def IT(P:Program)(f:Nat)(args:List V)(H:List (Nat×Blk))(fr:Nat)(r:CR):Prop:=
 ∀(ι:Inj) (nb:Nat) (w:World) (d:Array Value),WR ι H nb w->GL (wb r.wr ι) w->(∀x∈r.wr,∀q,ι x.1=some (some q)->q.fz=false)->(∀b,fr<=b->b<fr+r.grow->ι b=none)->VRs ι args d.toList->
  Calls P f d w λe w'=>∃a:Inj,(∀b,isIn r.kill b=false->(b<fr\/fr+r.grow<=b)->a b=ι b)/\
   (∀b q,isIn r.kill b=true->a b=some (some q)->(∃c,ι b=some (some c)/\c.r=q.r)\/w.heap.size<=q.r)/\(∀b q,fr<=b->b<fr+r.grow->a b=some (some q)->w.heap.size<=q.r)/\(∀b q,a b=some (some q)->q.fz=true->ι b=some (some q))/\
   WR a (r.wr++CG r.kill H) (max nb (fr+r.grow)) w'/\Fr (wb r.wr ι) w w'/\RetR a r e
mutual
def VR.kill{ι J:Inj}{K:List Nat}(h:∀b,isIn K b=false->∀q,ι b=some q->J b=some q):∀(v:V) (x:Value),VR ι v x->VR J (V.kill K v) x
 | .b _,_,hx | .i _ _,_,hx | .s _,_,hx | .pn,_,hx | .sn,_,hx | .nf,_,hx | .ni,_,hx | .ai _ _ _,_,hx | .unk,_,hx=>by simpa only[V.kill,VR]using hx
 | .p c o,x,hx=>by
  simp only[VR]at hx;obtain⟨q,C,rfl⟩:=hx;simp only[V.kill];cases hc:isIn K c with
  | true=>simp[VR,Value.cells,Value.oneCell']
  | false=>simp only[ah,VR];exact⟨q,h c hc _ C,rfl⟩
 | .mp c,x,hx=>by
  simp only[VR]at hx;obtain⟨q,C,rfl⟩:=hx;simp only[V.kill];cases hc:isIn K c with
  | true=>simp[VR,Value.cells,Value.oneCell']
  | false=>simp only[ah,VR];exact⟨q,h c hc _ C,rfl⟩
 | .pr z c j o,x,hx=>by
  simp only[VR]at hx;obtain⟨q,C,rfl⟩:=hx;simp only[V.kill];cases hc:isIn K c with
  | true=>simp[VR,Value.cells,Value.oneCell']
  | false=>simp only[ah,VR];exact⟨q,h c hc _ C,rfl⟩
 | .sl c o n m,x,hx=>by
  simp only[VR]at hx;obtain⟨q,cp,C,E,O,rfl⟩:=hx;simp only[V.kill];cases hc:isIn K c with
  | true=>simp[VR,Value.cells,Value.oneCell']
  | false=>simp only[ah,VR];exact⟨q,cp,h c hc _ C,E,O,rfl⟩
 | .ws c,x,hx=>by
  simp only[VR]at hx;simp only[V.kill];cases hc:isIn K c with
  | true=>rcases hx with⟨q,C,rfl⟩ | ⟨C,F,rfl⟩<;>simp[VR,Value.cells,Value.oneCell']
  | false=>
   simp only[ah,VR];rcases hx with⟨q,C,rfl⟩ | ⟨C,F,rfl⟩
   ·exact .inl ⟨q,h c hc _ C,rfl⟩
   ·exact .inr ⟨h c hc _ C,F,rfl⟩
 | .rs z c j n _,x,hx=>by
  simp only[VR]at hx;simp only[V.kill];cases hc:isIn K c with
  | true=>rcases hx with⟨q,cp,o,C,E,O,rfl⟩ | ⟨C,E,F,rfl⟩<;>simp[VR,Value.cells,Value.oneCell']
  | false=>
   simp only[ah,VR];rcases hx with⟨q,cp,o,C,E,O,rfl⟩ | ⟨C,E,F,rfl⟩
   ·exact .inl ⟨q,cp,o,h c hc _ C,E,O,rfl⟩
   ·exact .inr ⟨h c hc _ C,E,F,rfl⟩
 | .fn f cap,x,hx=>by
  simp only[V.kill,VR]at hx ⊢;obtain⟨G,C,E⟩:=hx;exact⟨G,C,VRs.kill h _ _ E⟩
 | .it t v,x,hx=>by
  simp only[V.kill,VR]at hx ⊢;obtain⟨y,C,E⟩:=hx;exact⟨y,C,VR.kill h _ _ E⟩
 | .ag l,x,hx=>by
  simp only[V.kill,VR]at hx ⊢;obtain⟨G,C,E⟩:=hx;exact⟨G,C,VRs.kill h _ _ E⟩
 | .tp l,x,hx=>by
  simp only[V.kill,VR]at hx ⊢;obtain⟨G,C,E⟩:=hx;exact⟨G,C,VRs.kill h _ _ E⟩
def VRs.kill{ι C:Inj}{K:List Nat}(h:∀b,isIn K b=false->∀q,ι b=some q->C b=some q):∀(l:List V) (E:List Value),VRs ι l E->VRs C (V.kills K l) E
 | [],_,hx=>by simpa[V.kills,VRs]using hx
 | v::l,E,hx=>by
  simp only[V.kills,VRs]at hx ⊢;obtain⟨y,O,F,J,G⟩:=hx;exact⟨y,O,F,VR.kill h _ _ J,VRs.kill h _ _ G⟩
end
def BR.kill{ι E:Inj}{K:List Nat}(h:∀b,isIn K b=false->∀q,ι b=some q->E b=some q){q:Rf}:∀{blk:Blk} {o:Obj},BR ι q blk o->BR E q (blk.kill K) o
 | .dead,_,_=>trivial
 | .rows t l,o,C=>C
 | .cells l,o,C=>by
  obtain⟨F,e,fr,G,O,J⟩:=C;exact⟨F,e,fr,G,VRs.kill h _ _ O,J⟩
 | .ints k n l,o,C=>C
 | .iter s pos,o,C=>C
 | .mp k l,o,C=>C
def vv(K:List Nat):∀(T:List (Nat×Option V)) (t:Nat),look (wk K T) t=(look T t).map (Option.map (V.kill K))
 | [],t=>rfl
 | (u,none)::T,t=>by
  simp only[wk,aV,vv K T];split<;>rfl
 | (u,some v)::T,t=>by
  simp only[wk,aV,vv K T];split<;>rfl
def vL(K:List Nat):∀(H:List (Nat×Blk)) (b:Nat),look (CG K H) b=(look H b).map (Blk.kill K)
 | [],t=>rfl
 | (u,v)::T,t=>by
  simp only[CG,aV,vL K T];split<;>rfl
def TR.kill{ι C:Inj}{K:List Nat}(h:∀b,isIn K b=false->∀q,ι b=some q->C b=some q){T:List (Nat×Option V)}{G:Array Value}(O:TR ι T G):TR C (wk K T) G:=by
 intro t v E;rw[vv]at E;cases F:look T t with
 | none=>simp[F]at E
 | some o=>
  cases o with
  | none=>simp[F]at E
  | some u=>
   simp only[F,fm,ar]at E;subst E;obtain⟨x,J,Q⟩:=O t u F;exact⟨x,J,VR.kill h _ _ Q⟩
mutual
def V.kill_nil:∀v:V,V.kill [] v=v
 | .b _ | .i _ _ | .s _ | .pn | .sn | .nf | .ni | .ai _ _ _ | .unk | .p _ _ | .pr _ _ _ _ | .sl _ _ _ _ | .ws _ | .rs _ _ _ _ _ | .mp _=>rfl
 | .fn f l | .ag l | .tp l=>by simp only[V.kill,V.kills_nil l]
 | .it t v=>by simp only[V.kill,V.kill_nil v]
def V.kills_nil:∀l:List V,V.kills [] l=l
 | []=>rfl
 | v::l=>by simp only[V.kills,V.kill_nil v,V.kills_nil l]
end
def us:∀H:List (Nat×Blk),CG [] H=H
 | []=>rfl
 | (b,x)::H=>by
  simp only[CG,us H];cases x<;>simp only[Blk.kill,V.kills_nil]
def zj:∀T:List (Nat×Option V),wk [] T=T
 | []=>rfl
 | (b,none)::T=>by simp only[wk,zj T]
 | (b,some x)::T=>by simp only[wk,zj T,V.kill_nil]
def St.kill_eq(K:List Nat)(s:St):s.kill K={ T:=wk K s.T,H:=CG K s.H,nb:=s.nb,lo:=s.lo,ro:=s.ro,rb:=s.rb }:=by
 cases K with
 | nil=>simp only[St.kill,zj,us]
 | cons b K=>rfl
def Y1(P:Program)(f:Nat)(args:List V)(r:CR):Prop:=
 r.pan=false/\r.wr=[]/\r.grow=0/\r.kill=[]/\∀(ι:Inj) (w:World) (a:Array Value),VRs ι args a.toList->∃x,(callFunc f a).run P w=.ok (.value x) w/\VR ι r.val x
def GoOK(P:Program)(f:Nat)(args:List V)(H:List (Nat×Blk))(fr:Nat)(r:CR):Prop:=(lC P f/\IT P f args H fr r)\/Y1 P f args r
def fQ(P:Program)(x:Ent):Prop:=
 ∀(α:Type) (args:List V) (H:List (Nat×Blk)) (fr:Nat) (k:CR->Option α) (z:α),x.e α args H fr k=some z->
  ∃r,k r=some z/\∀a,(∀b∈r.rd,look a b=look H b)->GoOK P x.f args a fr r
def wI{α:Type}{f:Nat}{args:List V}{H:List (Nat×Blk)}{fr:Nat}{k:CR->Option α}{z:α}:∀{E:List Ent},(∀x∈E,fQ P x)->JM α f args H fr k E=some z->
  ∃r,k r=some z/\∀c,(∀b∈r.rd,look c b=look H b)->GoOK P f args c fr r
 | [],_,h=>by simp[JM]at h
 | x::E,d,h=>by
  simp only[JM]at h;cases a:Nat.beq x.f f with
  | true=>
   rw[a]at h;have e:=bB a;subst e;exact d x (by simp) α args H fr k z h
  | false=>
   rw[a]at h;exact wI (λy hy=>d y (fV _ hy)) h
def ExR(ι:Inj):Ex->Exit->Prop
 | .normal,e=>e=.normal
 | .exit id,e=>e=.exit id
 | .ret,e=>e=.ret
 | .pan v,e=>∃x,e=.panic [{ v:=x,recovered:=false }]/\VR ι v x
def Post(n:Nat)(ι0:Inj)(w0:Base)(b:Ex->St->Prop):Exit->Act->World->Prop:=
 λe a w=>∃ex s ι,ExR ι ex e/\Inv n ι0 w0 ι s a w/\b ex s
def SemC(P:Program)(n:Nat)(c:Code)(s:St)(b:Ex->St->Prop):Prop:=
 ∀(ι0:Inj) (w0:Base) (ι:Inj) (a:Act) (w:World),Inv n ι0 w0 ι s a w->c.wp P (Post n ι0 w0 b) a w
def kw(P:Program)(n:Nat)(L:List Sub):AC->Prop
 | .seq a b | .cond _ a b=>kw P n L a/\kw P n L b
 | .block _ a | .scope a | .loop a=>kw P n L a
 | .sub m c=>∀(α:Type) (s:St) (k:Ex->St->Option α) (z:α),KQ α m s k L=some z->SemC P n c.code s λex s'=>k ex s'=some z
 | _=>True
def Fr.trans{ι0 O:Inj}{w0 w w':World}(h:Fr ι0 w0 w)(U:∀b q,O b=some (some q)->(∃G,ι0 b=some (some G)/\G.r=q.r)\/w0.heap.size<=q.r)(F:Fr O w w'):Fr ι0 w0 w':=by
 refine⟨F.os.trans h.os,F.tape.trans h.tape,F.output.trans h.output,rK h.size F.size,λk E C=>?_⟩;rw[F.blk k (pt E h.size) ?_,h.blk k E C];intro b q Q;rcases U b q Q with⟨G,J,W⟩ | J
 ·rw[<-W];exact C b G J
 ·omega
def nM(a:Act)(d:Option Nat)(v:Value):(a.put d v).tmps.size=a.tmps.size:=by
 cases d<;>simp[Act.put]
def jU(a:Act)(d:Option Nat)(v:Value):(a.put d v).defers=a.defers:=by
 cases d<;>rfl
def TR.app{ι:Inj}{s:St}{a:Act}{n:Nat}{d:Option Nat}{v:Option V}{x:Value}{wr:List (Nat×Blk)}{nb:Nat}(C:TR ι s.T a.tmps)(hs:a.tmps.size=n)(E:vJ n d=true)
  (F:∀u,v=some u->VR ι u x):TR ι (s.app d v wr nb).T (a.put d x).tmps:=by
 cases d with
 | none=>exact C
 | some d=>exact C.put (by rw[hs];exact aM E) F
def Inv.drawn{n:Nat}{ι0 ι:Inj}{w0:Base}{s:St}{a:Act}{w:World}(h:Inv n ι0 w0 ι s a w)(m:Nat):Inv n ι0 w0 ι s a { w with drawn:=m }:=
 ⟨h.size,h.defers,h.tmps,h.mem.draws m,h.ext,h.new,h.fr.draws m,h.low,h.fz,h.gl⟩
def IU {n fr:Nat} {ι0 ι:Inj} {w0:Base} {s:St} {o:Oper} {a:Act} {w:World} {e:Eff} (f:Inv n ι0 w0 ι s a w) (J:ι fr=none) (B:vJ n o.dst=true)
  (h:gY P ι fr o a w e) (m:e.new=false->∀I,e.wr=some I->s.ro<=I.1) {next:Act->World->Prop} {Q:Exit->Act->World->Prop}
  (E:∀g K w',(∀b,b≠fr->g b=ι b)->(e.new=false\/e.wr=none->g fr=ι fr)->
   Inv n ι0 w0 g (s.app o.dst e.val e.wr.toList (if e.new=true/\e.wr≠none then max s.nb (fr+1) else s.nb)) K w'->next K w'):
  o.wp P a w next Q:=by
 have fin:∀{x:Next} {w':World} {g:Inj},(execOp a.eval o).run P w=.ok x w'->NextR g e.val x->(∀y,(∀u,e.val=some u->VR g u y)->next (a.put o.dst y) w')->o.wp P a w next Q:=by
  intro x w' g C hx hy;unfold Oper.wp;rw [C];cases hx with
  | skip D=>exact hy _ (λu H=>by rw [D] at H;cases H)
  | value x D=>exact hy _ D
 unfold gY at h;split at h
 ·rename_i k;obtain ⟨x,l,t⟩:=h;refine fin l t λy hy=>E ι _ _ (λ_ _=>rfl) (λ_=>rfl) ?_;rw [k];simp only [ne_eq,vh,and_false,aG];exact ⟨by rw [nM];exact f.size,by rw [jU];exact f.defers,f.tmps.app f.size B hy,f.mem,f.ext,f.new,f.fr,f.low,f.fz,f.gl⟩
 ·rename_i b blk k;split at h
  ·rename_i i;obtain ⟨r,l,L⟩:=h;have v:r.fz=false:=by
    cases hc:r.fz with
    | false=>rfl
    | true=>have:=f.fz b r l hc;have:=m i _ k;simp only at this;omega
   obtain ⟨ob,x,t,F,z⟩:=L v;refine fin t z λy hy=>E ι _ _ (λ_ _=>rfl) (λ_=>rfl) ?_;rw [k,i];simp only [bU,yR,aG];refine ⟨by rw [nM];exact f.size,by rw [jU];exact f.defers,f.tmps.app f.size B hy,f.mem.write l v F,f.ext,f.new,?_,f.low,f.fz,f.gl⟩;exact f.fr.write ((f.new b r l).imp (λ⟨M,h,C⟩=>⟨b,M,DK h (m i _ k),C⟩) id) _
  ·rename_i i;obtain ⟨rfl,d,q,ob,x,t,G,A,F,z⟩:=h;have j:=qt (r:=some q) J;refine fin t z λy hy=>E (upd ι b (some q)) _ _ (λc hc=>by simp [upd,hc]) (λhc=>by rw [i,k] at hc;simp at hc) ?_;rw [k,i];simp only [ne_eq,reduceCtorEq,Hk,and_self,aQ]
   refine ⟨by rw [nM];exact f.size,by rw [jU];exact f.defers,(f.tmps.mono j).app f.size B hy,(f.mem.draws d).alloc J (by simp only [St.app];omega) (by simp only [St.app];omega) G F,λc q hc=>(f.ext c q hc).imp (j _ _) id,λc q hc=>?_,(f.fr.draws d).alloc ob,f.low,λc p hc hp=>by
    unfold upd at hc;split at hc
    ·simp only [ar] at hc;subst hc;rw [A] at hp;cases hp
    ·exact f.fz c p hc hp,f.gl⟩
   unfold upd at hc;split at hc
   ·simp only [ar] at hc;subst hc;exact .inr (by rw [G];exact f.fr.size)
   ·exact f.new c q hc
def Inv.phantom'{n:Nat}{ι0 ι:Inj}{w0:Base}{s:St}{a:Act}{w:World}(E:Inv n ι0 w0 ι s a w){g:Nat}(Y:ι g=none){nb:Nat}(Q:s.nb<=nb)(Z:g<nb)(tr:List Lf):
  Inv n ι0 w0 (upd ι g none) { T:=s.T,H:=(g,.rows tr [])::s.H,nb:=nb,lo:=s.lo,ro:=s.ro,rb:=s.rb } a w:=by
 have G:=qt (r:=none) Y;have F:∀b,b≠g->upd ι g none b=ι b:=λb J=>by simp[upd,J]
 have C:∀b q,upd ι g none b=some (some q)->ι b=some (some q):=by
  intro b q h;by_cases J:b=g
  ·subst J;rw[dO]at h;cases h
  ·rwa[F b J]at h
 refine⟨E.size,E.defers,E.tmps.mono G,⟨λb b' q X W e2=>E.mem.inj b b' q X (C _ _ W) (C _ _ e2),λb q e=>?_,λb q e=>E.mem.dom b q (C _ _ e),λb y O hd=>?_⟩,
  λb q e=>(E.ext b q e).imp (G _ _) id,λb q e=>E.new b q (C _ _ e),E.fr,E.low,λb q e=>E.fz b q (C _ _ e),E.gl⟩
 ·by_cases J:b=g
  ·subst J;exact Z
  ·rw[F b J]at e;exact pt (E.mem.low b q e) Q
 ·rw[aV]at O;split at O
  ·rename_i e;subst e;simp only[ar]at O;subst O;exact .inr ⟨dO _ _ _,tr,rfl⟩
  ·rename_i U;exact(E.mem.blk b y O hd).map (F b (λe=>U e.symm)) (λ_ _=>rfl) (λ_ _ h=>BR.mono G h) (λ_ h=>h)
def Inv.setnb{n:Nat}{ι0 ι:Inj}{w0:Base}{s:St}{a:Act}{w:World}(C:Inv n ι0 w0 ι s a w){nb:Nat}(h:s.nb<=nb):
  Inv n ι0 w0 ι { T:=s.T,H:=s.H,nb:=nb,lo:=s.lo,ro:=s.ro,rb:=s.rb } a w:=
 ⟨C.size,C.defers,C.tmps,⟨C.mem.inj,λb q e=>pt (C.mem.low b q e) h,C.mem.dom,C.mem.blk⟩,C.ext,C.new,C.fr,C.low,C.fz,C.gl⟩
def SZ{ι:Inj}{g:Nat}(a:ι g=some none){x:Value}(h:VR ι .sn x):VR ι (.ws g) x:=by
 simp only[VR]at h ⊢;exact .inr ⟨a,none,h⟩
def Cc:∀(ns:List (Nat×List Lf)) (g:Nat) (l:List V) (acc:List (Nat×Blk)) (t:List V) (H:List (Nat×Blk)),nilL g ns l acc=(t,H)->∃k,H=k++acc/\
  ∀{n:Nat} {ι0 ι:Inj} {w0:Base} {s:St} {a:Act} {w:World},Inv n ι0 w0 ι s a w->(∀b,g<=b->b<g+k.length->ι b=none)->∀nb,s.nb<=nb->(k=[]\/g+k.length<=nb)->
   ∃c,(∀b,(b<g\/g+k.length<=b)->c b=ι b)/\(∀b q,ι b=some q->c b=some q)/\(∀m,VRs c l m->VRs c t m)/\
    Inv n ι0 w0 c { T:=s.T,H:=k++s.H,nb:=nb,lo:=s.lo,ro:=s.ro,rb:=s.rb } a w
 | [],g,l,acc,t,H,h=>by
  simp only[nilL,bm]at h;obtain⟨rfl,rfl⟩:=h;exact⟨[],rfl,λ{n ι0 ι w0 s a w} A d nb y v=>⟨ι,λ_ _=>rfl,λ_ _ h=>h,λ_ h=>h,A.setnb y⟩⟩
 | (i,tr)::r,g,l,acc,t,H,h=>by
  simp only[nilL]at h;split at h
  ·rename_i hi;obtain⟨u,rfl,E⟩:=Cc r (g+1) _ _ _ _ h;refine⟨u++[(g,.rows tr [])],by simp,λ{n ι0 ι w0 s a w} A d nb y v=>?_⟩;have o:(u++[((g,.rows tr []):Nat×Blk)]).length=u.length+1:=by simp
   rw[o]at d v ⊢;have v:g+(u.length+1)<=nb:=v.resolve_left (by simp);have C:=d g (bg _) (by omega);have p:=qt (r:=none) C
   obtain⟨c,k1,k2,k3,k4⟩:=E (A.phantom' C y (by omega) tr) (λb F G=>by
    have:upd ι g none b=ι b:=by simp[upd,show b≠g by omega]
    rw[this];exact d b (by omega) (by omega)) nb (bg _) (.inr (by omega))
   refine⟨c,λb B=>?_,λb q B=>k2 b q (p b q B),λm hx=>k3 m ?_,by simpa using k4⟩
   ·rw[k1 b (by omega)];simp[upd,show b≠g by omega]
   ·obtain⟨x,f,z⟩:=hx.get hi;have:=hx.set i (SZ (g:=g) (k2 _ _ (dO _ _ _)) z);rwa[show m.set i x=m from by
     apply AT;intro j;rw[List.getElem?_set];split
     ·rename_i e;subst e;split
      ·exact f.symm
      ·rename_i D;rw[gh (by omega)]at f;cases f
     ·rfl]at this
  ·exact Cc r g l acc t H h
def VI{α:Type}(l m:List (Nat×α))(n:Nat):look (l++m) n=(look l n).or (look m n):=by
 induction l with
 | nil=>rfl
 | cons x l ih=>
  obtain⟨k,v⟩:=x;rw[eX,aV,aV,ih];split<;>rfl
def Inv.reH{n:Nat}{ι0 ι:Inj}{w0:Base}{T:List (Nat×Option V)}{A B:List (Nat×Blk)}{b nb lo ro rb:Nat}{l J:List V}{a:Act}{w:World}
  (E:Inv n ι0 w0 ι ⟨T,A++(b,.cells l)::B,nb,lo,ro,rb⟩ a w) (h:∀G,VRs ι l G->VRs ι J G):Inv n ι0 w0 ι ⟨T,A++(b,.cells J)::B,nb,lo,ro,rb⟩ a w:=by
 refine⟨E.size,E.defers,E.tmps,⟨E.mem.inj,E.mem.low,E.mem.dom,λc y hc Q=>?_⟩,E.ext,E.new,E.fr,E.low,E.fz,E.gl⟩;have C:=E.mem.blk c;rw[VI,aV]at hc C;cases O:look A c with
 | some z=>rw[O]at hc C;exact C y hc Q
 | none=>
  rw[O]at hc C;simp only[Gx]at hc C;split at hc
  ·rename_i e;rw[af e]at C;simp only[ar]at hc;subst hc;rcases C _ rfl (by simp)with⟨q,o,W,F,X⟩ | ⟨_,t,F⟩
   ·obtain⟨U,Y,fr,g1,g2,Z⟩:=X;exact .inl ⟨q,o,W,F,U,Y,fr,g1,h _ g2,Z⟩
   ·cases F
  ·rename_i e;rw[ae e]at C;exact C y hc Q
def Inv.reT{n:Nat}{ι0 ι:Inj}{w0:Base}{s:St}{wr:List (Nat×Blk)}{d:Option Nat}{nb:Nat}{v G:V}{a:Act}{w:World}
  (E:Inv n ι0 w0 ι (s.app d (some v) wr nb) a w) (h:∀x,VR ι v x->VR ι G x):Inv n ι0 w0 ι (s.app d (some G) wr nb) a w:=by
 refine⟨E.size,E.defers,?_,E.mem,E.ext,E.new,E.fr,E.low,E.fz,E.gl⟩;have J:=E.tmps;cases d with
 | none=>exact J
 | some d=>
  intro t u F;have C:=J t;simp only[St.app,aV]at F C;split at F
  ·rename_i e;rw[af e]at C;simp only[ar]at F;subst F;obtain⟨x,O,Q⟩:=C v rfl;exact⟨x,O,h x Q⟩
  ·rename_i e;rw[ae e]at C;exact C u F
def Ut{P:Program}{t:TypeId}{g:Nat}{v m:V}{f:List (Nat×Blk)}(h:nilV P t g v=(m,f)){n:Nat}{ι0 ι:Inj}{w0:Base}{s:St}{d:Option Nat}{nb0:Nat}{a:Act}{w:World}
  (q:Inv n ι0 w0 ι (s.app d (some v) [] nb0) a w) (k:∀b,g<=b->b<g+f.length->ι b=none) {nb:Nat} (p:nb0<=nb) (o:f=[]\/g+f.length<=nb):
  ∃c,(∀b,(b<g\/g+f.length<=b)->c b=ι b)/\Inv n ι0 w0 c (s.app d (some m) f nb) a w:=by
 have j:(v,([]:List (Nat×Blk)))=(m,f)->∃c,(∀b,(b<g\/g+f.length<=b)->c b=ι b)/\Inv n ι0 w0 c (s.app d (some m) f nb) a w:=by
  intro e;simp only[bm]at e;obtain⟨rfl,rfl⟩:=e;exact⟨ι,λ_ _=>rfl,q.setnb p⟩
 unfold nilV at h;split at h
 ·split at h
  ·rename_i i tr r G;simp only[bm]at h;obtain⟨rfl,rfl⟩:=h;have C:=k g (bg _) (by simp);have o:g+1<=nb:=by simpa using o
   have:=q.phantom' C p o tr;exact⟨upd ι g none,λb z=>by simp only[List.length_singleton]at z;simp[upd,show b≠g by omega],Inv.reT (s:=s) (wr:=[(g,.rows tr [])]) (v:=.sn) this λx hx=>SZ (dO _ _ _) hx⟩
  ·exact j h
 ·rename_i l;split at h;rename_i H u D;simp only[bm]at h;obtain⟨rfl,rfl⟩:=h;obtain⟨F,e,A⟩:=Cc _ _ _ _ _ _ D;rw[ko]at e;subst e;obtain⟨c,k1,k2,k3,k4⟩:=A q k nb p o;refine⟨c,k1,Inv.reT (s:=s) (wr:=u) (v:=.ag l) k4 λx hx=>?_⟩;simp only[VR]at hx ⊢;obtain⟨y,B,E⟩:=hx;exact⟨y,B,k3 _ E⟩
 ·exact j h
def TV(nb fr:Nat):∀g,g=0\/fr+g<=nbOf nb fr g
 | 0=>.inl rfl
 | _+1=>.inr (Nat.le_max_right _ _)
def FL{P:Program}{fr:Nat}{o:Oper}{e:Eff}{v:Option V}{wr:List (Nat×Blk)}{g:Nat}(h:AS P fr o e=(v,wr,g))(c:g=0):e.new=false\/e.wr=none:=by
 unfold AS at h;split at h
 ·rename_i b;exact .inr b
 ·split at h
  ·rename_i a;exact .inl a
  ·split at h
   ·split at h;simp only[bm]at h;omega
   ·simp only[bm]at h;omega
def gY.new_eq{ι:Inj}{f:Nat}{o:Oper}{a:Act}{w:World}{e:Eff}(h:gY P ι f o a w e){C:Nat×Blk}(F:e.wr=some C)(E:e.new=true):C.1=f:=by
 unfold gY at h;rw[F]at h;simp only[E]at h;exact h.1
def MS{P:Program}{fr:Nat}{o:Oper}{e:Eff}{v:Option V}{wr:List (Nat×Blk)}{g:Nat}(h:AS P fr o e=(v,wr,g)){n:Nat}{ι0 ι:Inj}{w0:Base}{s:St}{nb0 nb:Nat}{a:Act}{w:World}
  (k:Inv n ι0 w0 ι (s.app o.dst e.val e.wr.toList nb0) a w) (m:∀b,fr<=b->b<fr+g->(b=fr->e.wr=none)->ι b=none) (F:∀r,e.wr=some r->e.new=true->r.1=fr) (y:nb0<=nb) (C:g=0\/fr+g<=nb):
  ∃f,(∀b,(b<fr\/fr+g<=b)->f b=ι b)/\Inv n ι0 w0 f (s.app o.dst v wr nb) a w:=by
 have i:(e.val,e.wr.toList)=(v,wr)->∃f,(∀b,(b<fr\/fr+g<=b)->f b=ι b)/\Inv n ι0 w0 f (s.app o.dst v wr nb) a w:=by
  intro e;simp only[bm]at e;obtain⟨rfl,rfl⟩:=e;exact⟨ι,λ_ _=>rfl,k.setnb y⟩
 unfold AS at h;split at h
 ·rename_i j;rw[j]at k i;split at h
  ·rename_i t u N I;split at h;rename_i M H K;simp only[bm]at h;obtain⟨rfl,rfl,rfl⟩:=h;rw[I]at k;obtain⟨f,k1,k2⟩:=Ut K (d:=o.dst) (s:=s) k (λb x E=>m b x E λ_=>j) y (C.imp (λh=>tu h) id);exact⟨f,k1,k2⟩
  ·simp only[bm]at h;exact i (by simp[h.1,h.2.1])
 ·rename_i r j;rw[j]at i;split at h
  ·simp only[bm]at h;exact i (by simp[h.1,h.2.1])
  ·rename_i z;split at h
   ·rename_i t l L p;split at h;rename_i R H J;simp only[bm]at h;obtain⟨rfl,rfl,rfl⟩:=h;obtain⟨O,D,G⟩:=Cc _ _ _ _ _ _ J;rw[ko]at D;subst D;rw[j]at k;have x:=F r j z;obtain⟨b,blk⟩:=r;simp only at p x;subst p x;obtain⟨f,k1,k2,k3,k4⟩:=G k (λc Q S=>m c (by omega) (by omega) (λq=>by omega)) nb y (C.elim (λh=>by omega) λh=>.inr (by omega));refine⟨f,λc hc=>k1 c (by omega),?_⟩;have:=Inv.reH (A:=H) (B:=s.H) (b:=b) k4 k3;simpa[St.app]using this
   ·simp only[bm]at h;exact i (by simp[h.1,h.2.1])
def S0{ι:Inj}{T:List (Nat×Option V)}{a:Act}(c:TR ι T a.tmps){g:Operand}{f:Nat}{cap:List V}(h:opd T g=some (.fn f cap)):
  ∃b:Array Value,a.eval g=fnV f b/\VRs ι cap b.toList:=by
 have:=bv c h;simpa only[VR]using this
def AN{wr:List (Nat×Blk)}{ι:Inj}{b:Nat}{r:Option Rf}(h:wb wr ι b=some r):∃x∈wr,x.1=b:=by
 unfold wb at h;split at h
 ·rename_i c;obtain⟨x,hx,a⟩:=tj.1 c;exact⟨x,hx,bB a⟩
 ·cases h
def D8(wr:List (Nat×Blk))(ι:Inj):∀b r,wb wr ι b=some r->ι b=some r:=by
 intro b r h;unfold wb at h;split at h
 ·exact h
 ·cases h
def Rn{K f:Nat}{ι:Inj}{o:Oper}{a:Act}{g:Operand}{args:Array Operand}{d:Array TypeId}{c:Array Value}{cap l:List V}(h:o.op=.call ⟨.value g,args,d⟩)
  (b:a.eval g=fnW K f c) (i:VRs ι cap c.toList) (e:VRs ι l (args.toList.map a.eval)) (w:World):
  ∃as:Array Value,VRs ι (fnAW K f l cap) as.toList/\(execOp a.eval o).run P w=(callFunc (fnFW K f) as).run P w:=by
 unfold fnAW fnFW;unfold fnW at b;cases j:Nat.blt f K<;>rw[j]at b<;>simp only at b ⊢
 ·refine⟨c++args.map a.eval,by simpa using i.append e,?_⟩;simp only[execOp,h,resolve,b,Deferred.ofValue,Array.append_empty,ay,aE,aB,invoke]
 ·refine⟨args.map a.eval++c,by simpa using e.append i,?_⟩;simp only[execOp,h,resolve,b,Deferred.ofValue,Array.empty_append,ay,aE,aB,invoke]
def C3{n fr:Nat}{ι0 ι:Inj}{w0:Base}{s:St}{o:Oper}{a:Act}{w:World}{g:Operand}{args:Array Operand}{N:Array TypeId}{f:Nat}{cap l:List V}{r:CR}
  (ho:o.op=.call ⟨.value g,args,N⟩) (d:Inv n ι0 w0 ι s a w) (J:∀b,fr<=b->b<fr+r.grow->ι b=none) (hd:vJ n o.dst=true)
  (hg:opd s.T g=some (.fn f cap)) (hl:opds (opd s.T) args.toList=some l) (B:r.wr.all (λx=>Nat.ble s.ro x.1)=true)
  (A:r.kill.all (λb=>Nat.ble s.rb b)=true) (hc:GoOK P (fnF f) (fnA f l cap) s.H fr r)
  {next:Act->World->Prop} {Q:Exit->Act->World->Prop}
  (hn:r.pan=false->∀i a' w',(∀b,isIn r.kill b=false->(b<fr\/fr+r.grow<=b)->i b=ι b)->Inv n ι0 w0 i ((s.kill r.kill).app o.dst (some r.val) r.wr (max s.nb (fr+r.grow))) a' w'->next a' w')
  (hp:r.pan=true->∀i x w',VR i r.val x->Inv n ι0 w0 i ((s.kill r.kill).app none none r.wr (max s.nb (fr+r.grow))) a w'->Q (.panic [{ v:=x,recovered:=false }]) a w'):
  o.wp P a w next Q:=by
 obtain⟨cs,O,h2⟩:=S0 d.tmps hg;have h3:=yW d.tmps hl;obtain⟨as,G,y⟩:=Rn (P:=P) ho (show a.eval g=fnW 1000000 f cs from O) h2 h3 w;rcases hc with⟨hE,hc⟩ | ⟨a1,a2,a3,a4,I⟩
 case inr=>
  obtain⟨x,D,hx⟩:=I ι w as G;have m:(execOp a.eval o).run P w=.ok (.value x) w:=by rw[y];exact D
  unfold Oper.wp;rw[m];refine hn a1 ι _ _ (λ_ _ _=>rfl) ?_;rw[a2,a3,a4,dP];refine⟨by rw[nM];exact d.size,by rw[jU];exact d.defers,TR.app (s:=s) d.tmps d.size hd (λu hu=>by cases hu;exact hx),?_,d.ext,d.new,d.fr,d.low,d.fz,d.gl⟩;exact⟨d.mem.inj,λb q E=>pt (d.mem.low b q E) (FX _ _),d.mem.dom,d.mem.blk⟩
 have m:(execOp a.eval o).run P w=.ok (.enter (fnF f) as) w:=by rw[y];exact hE _ _
 unfold Oper.wp;rw[m];simp only[Oper.upon];refine(hc ι s.nb w as d.mem (d.glHere λb q j=>by
  obtain⟨x,hx,rfl⟩:=AN j;exact⟨D8 r.wr ι x.1 _ j,aM (bO.1 B x hx)⟩) (λx hx q E=>by
  cases hc:q.fz with
  | false=>rfl
  | true=>have:=d.fz x.1 q E hc;have:=aM (bO.1 B x hx);omega) (λb Z hb2=>J b Z (by omega)) G).mono λe w' h=>?_
 obtain⟨i,g1,g0,g2,g6,g3,g4,U⟩:=h;have K:∀b q,i b=some (some q)->q.fz=true->b<s.ro:=λb q j E=>d.fz b q (g6 b q j E) E;have L:∀b,isIn r.kill b=true->s.rb<=b:=by
  intro b j;obtain⟨c,hc1,M⟩:=tj.1 j;rw[bB M];exact aM (bO.1 A c hc1)
 have t:∀b,isIn r.kill b=false->∀q,ι b=some q->i b=some q:=by
  intro b C q j;rw[g1 b C ?_];exact j;rcases aN b fr with h | h
  ·exact .inl h
  ·rcases aN b (fr+r.grow)with h' | h'
   ·have:=J b h (by omega);rw[this]at j;cases j
   ·exact .inr h'
 have k:∀b q,ι0 b=some q->i b=some q\/s.rb<=b:=by
  intro b q j;rcases d.ext b q j with h | h
  ·cases C:isIn r.kill b with
   | true=>exact .inr (L b C)
   | false=>exact .inl (t b C q h)
  ·exact .inr h
 have p:∀b q,i b=some (some q)->(∃F,ι0 b=some (some F)/\F.r=q.r)\/w0.w.heap.size<=q.r:=by
  intro b q j;cases C:isIn r.kill b with
  | true=>
   rcases g0 b q C j with⟨F,W,h7⟩ | W
   ·rw[<-h7];exact d.new b F W
   ·exact .inr (rK d.fr.size W)
  | false=>
   by_cases S:b<fr\/fr+r.grow<=b
   ·rw[g1 b C S]at j;exact d.new b q j
   ·have:=g2 b q (by omega) (by omega) j;exact .inr (rK d.fr.size this)
 have z:Fr (roI ι0 s.ro) w0.w w':=d.fr.trans (λb q j=>by
  obtain⟨x,hx,rfl⟩:=AN j;have O:=aM (bO.1 B x hx);exact(d.new x.1 q (D8 r.wr ι x.1 _ j)).imp (λ⟨F,h,hr⟩=>⟨F,DK h O,hr⟩) id) g4
 have hT:=d.tmps.kill t;rw[St.kill_eq]at hn hp;cases e with
 | returned x=>
  obtain⟨R,X⟩:=U;refine hn R i _ _ g1 ⟨by rw[nM];exact d.size,by rw[jU];exact d.defers,TR.app (s:={ T:=wk r.kill s.T,H:=CG r.kill s.H,nb:=s.nb,lo:=s.lo,ro:=s.ro,rb:=s.rb }) hT d.size hd (λu hu=>by cases hu;exact X),g3,k,p,z,d.low,K,d.gl⟩
 | panicked Y=>
  obtain⟨R,x,rfl,X⟩:=U;exact hp R i x _ X ⟨d.size,d.defers,hT,g3,k,p,z,d.low,K,d.gl⟩
 | outgrown=>exact U.elim
def zZ{c:Bool}{P:Program}{fr:Nat}{o:Oper}{e:Eff}{v:Option V}{wr:List (Nat×Blk)}{g:Nat}(h:vB c P fr o e=(v,wr,g)):AS P fr o e=(v,wr,g)\/(e.val,e.wr.toList,Vi e)=(v,wr,g):=by
 unfold vB at h;split at h;rename_i d b f a;split at h
 ·exact .inl (a.trans h)
 ·split at h
  ·exact .inr h
  ·exact .inl (a.trans h)
def wc{c:Bool}{P:Program}{fr:Nat}{o:Oper}{e:Eff}{v:Option V}{wr:List (Nat×Blk)}{g:Nat}(h:vB c P fr o e=(v,wr,g))(a:g=0):e.new=false\/e.wr=none:=by
 rcases zZ h with h | h
 ·exact FL h a
 ·simp only[bm]at h;have h:=h.2.2;rw[a]at h;unfold Vi at h;split at h
  ·rename_i d;exact .inr d
  ·left;cases b:e.new with
   | false=>rfl
   | true=>rw[b]at h;cases h
def J3{a:Bool}{P:Program}{fr nb:Nat}{o:Oper}{e:Eff}{v:Option V}{wr:List (Nat×Blk)}{g:Nat}(h:vB a P fr o e=(v,wr,g)):
  (if e.new=true/\e.wr≠none then max nb (fr+1)else nb)<=nbOf nb fr g:=by
 cases g with
 | zero=>
  have:=wc h rfl;rw[ae (λhc=>by rcases this with h | h;rw[h]at hc;cases hc.1;exact hc.2 h)];exact bg _
 | succ g=>
  simp only[nbOf];split<;>omega
def Ac{m:Bool}{P:Program}{fr:Nat}{o:Oper}{e:Eff}{v:Option V}{wr:List (Nat×Blk)}{g:Nat}(h:vB m P fr o e=(v,wr,g)){n:Nat}{ι0 ι:Inj}{w0:Base}{s:St}{nb0 nb:Nat}{a:Act}{w:World}
  (i:Inv n ι0 w0 ι (s.app o.dst e.val e.wr.toList nb0) a w) (d:∀b,fr<=b->b<fr+g->(b=fr->e.wr=none)->ι b=none) (k:∀f,e.wr=some f->e.new=true->f.1=fr) (j:nb0<=nb) (l:g=0\/fr+g<=nb):
  ∃c,(∀b,(b<fr\/fr+g<=b)->c b=ι b)/\Inv n ι0 w0 c (s.app o.dst v wr nb) a w:=by
 rcases zZ h with h | h
 ·exact MS h i d k j l
 ·simp only[bm]at h;obtain⟨rfl,rfl,_⟩:=h;exact⟨ι,λ_ _=>rfl,i.setnb j⟩
def HW{α:Type}{E:List Ent}(hE:∀x∈E,fQ P x){n fr:Nat}{ι0 ι:Inj}{w0:Base}{s:St}{o:Oper}{a:Act}{w:World}(H:Inv n ι0 w0 ι s a w)
  (u:∀b,fr<=b->b<fr+8->ι b=none) {k:St->List Nat->List (Nat×Blk)->Nat->Option α} {kp:V->St->Option α} {z:α} (h:DG P E n fr o s k kp=some z)
  {next:Act->World->Prop} {Q:Exit->Act->World->Prop}
  (hn:∀s' rd wr g c p w',k s' rd wr g=some z->(∀b,(b<fr\/fr+g<=b)->c b=ι b)->Inv n ι0 w0 c s' p w'->next p w')
  (hp:∀v s' c x p w',kp v s'=some z->VR c v x->Inv n ι0 w0 c s' p w'->Q (.panic [{ v:=x,recovered:=false }]) p w'):
  o.wp P a w next Q:=by
 have Y:ι fr=none:=u fr (bg _) (by omega);unfold DG at h;split at h
 ·cases h
 rename_i hd;have M:vD P (Bi E) fr o s k=some z->o.wp P a w next Q:=by
  intro h;unfold vD at h;obtain⟨e,N,J⟩:=Np H.tmps H.mem Y h;split at N;rename_i v wr g F;split at N
  case h_2=>cases N
  rename_i K;simp only[aA]at K;have X:=aM K.2;have C:∀R,e.wr=some R->e.new=true->R.1=fr:=λR S G=>gY.new_eq J S G;refine IU H Y hd J (λG R S=>by
   have:=K.1;unfold roOK at this;rw[S]at this;simp only[G]at this;exact aM this) λc p w' D g2 d=>?_
  obtain⟨T,k1,k2⟩:=Ac F d (λb W e2 e3=>by
   by_cases j:b=fr
   ·subst j;rw[g2 (.inr (e3 rfl))];exact Y
   ·rw[D b j];exact u b W (by omega)) C (nb:=nbOf s.nb fr g) (J3 F) (TV s.nb fr g)
  refine hn _ _ _ _ T p w' N (λb U=>?_) k2;rw[k1 b U];by_cases j:b=fr
  ·subst j;refine g2 (wc F (by omega))
  ·exact D b j
 split at h
 ·rename_i cl B;split at h
  ·rename_i g q;split at h
   ·rename_i f cap hg;obtain⟨l,hl,h⟩:=ax h;obtain⟨r,I,h3⟩:=wI hE h;split at I
    ·cases I
    rename_i m;simp only[aA]at m;have A:r.kill=[]:=by simpa using m.2.2
    have X:=aM m.1;obtain⟨O,args,tys⟩:=cl;simp only at q;subst q;refine C3 B H (λb W e2=>u b W (by omega)) hd hg hl m.2.1 (by rw[A];rfl) (h3 _ λ_ _=>rfl) (λi c p w' D d=>?_) (λi c x w' D d=>?_)
    ·rw[i]at I;rw[A]at D d;exact hn _ _ _ _ c p w' I (λb K=>D b rfl K) d
    ·rw[i]at I;rw[A]at d;exact hp _ _ c x a w' I D d
   ·cases h
  ·exact M h
 ·rename_i x B;split at h
  ·rename_i t v hx;have Z:=bv H.tmps hx;have hv':=Z;simp only[VR]at Z;obtain⟨y,h6,_⟩:=Z;unfold Oper.wp;have L:(execOp a.eval o).run P w=.halt (.panic (.iface t y)) w:=by
    simp only[execOp,B,h6,Instr.panic,ay,run_goPanic,Result.andThen_halt]
   rw[L];exact hp _ _ ι _ a w h (h6▸hv') H
  ·cases h
 ·exact M h
def TR.again{ι:Inj}{T:List (Nat×Option V)}{E:Array Value}(F:TR ι T E){d:Nat}{v:V}(G:look T d=some (some v)):TR ι ((d,some v)::T) E:=by
 intro t u C;rw[aV]at C;split at C
 ·rename_i e;subst e;simp only[ar]at C;subst C;exact F d v G
 ·exact F t u C
def Inv.again{n:Nat}{ι0 ι:Inj}{w0:Base}{s:St}{a:Act}{w:World}(h:Inv n ι0 w0 ι s a w){d:Nat}{v:V}(C:look s.T d=some (some v)):
  Inv n ι0 w0 ι { s with T:=(d,some v)::s.T } a w:=
 ⟨h.size,h.defers,h.tmps.again C,h.mem,h.ext,h.new,h.fr,h.low,h.fz,h.gl⟩
def sE{ops:List Oper}{j d:Nat}(h:gtmp ops j=some d)(a:Array Value):
  yielded ops.toArray a j=match a[d]? with | some (.bool b)=>some b | _=>none:=by
 unfold gtmp at h;split at h
 ·rename_i o c;have:(ops.toArray[j]?).bind (·.dst)=some d:=by simp[c,h]
  unfold yielded;rw[this];rfl
 ·cases h
def OV{α:Type}{n:Nat}{ι0 ι:Inj}{w0:Base}{ops:List Oper}{o:Oper}{s:St}{a:Act}{w:World}(f:Inv n ι0 w0 ι s a w){k:Bool->St->Option α}{z:α}
  (h:zu ops o s k=some z):∃c s',k c s'=some z/\Inv n ι0 w0 ι s' a w/\Region.wanted o (yielded ops.toArray a.tmps)=c/\(∀t,look s'.T t=look s.T t)/\s'.H=s.H/\s'.nb=s.nb:=by
 unfold zu at h;split at h
 ·rename_i g;exact⟨true,s,h,f,by simp[Region.wanted,g],λ_=>rfl,rfl,rfl⟩
 ·rename_i j c g;split at h
  case h_2=>cases h
  rename_i d m;have hy:=sE m a.tmps;have again:∀x,look s.T d=some (some (.b x))->∀t,look ((d,some (V.b x))::s.T) t=look s.T t:=by
   intro x hx t;rw[aV];split
   ·rename_i e;subst e;exact hx.symm
   ·rfl
  split at h
  ·rename_i x hx;obtain⟨y,l,i⟩:=f.tmps d _ hx;simp only[VR]at i;subst i;rw[l]at hy;cases x
   ·exact⟨!c,_,h,f.again hx,by cases c<;>simp[Region.wanted,g,hy],again _ hx,rfl,rfl⟩
   ·exact⟨c,_,h,f.again hx,by cases c<;>simp[Region.wanted,g,hy],again _ hx,rfl,rfl⟩
  ·rename_i hx;obtain⟨y,l,i⟩:=f.tmps d _ hx;simp only[VR]at i;obtain⟨p,rfl,_⟩:=i;rw[l]at hy;exact⟨false,s,h,f,by simp[Region.wanted,g,hy],λ_=>rfl,rfl,rfl⟩
  ·cases h
def PQ(ι:Inj):VR ι (.tp []) undef:=by
 simp only[VR];exact⟨#[],rfl,by simp[VRs]⟩
def Inv.skip{n:Nat}{ι0 ι:Inj}{w0:Base}{s:St}{a:Act}{w:World}(h:Inv n ι0 w0 ι s a w){d:Option Nat}(E:vJ n d=true):
  Inv n ι0 w0 ι (s.app d (some (.tp [])) [] s.nb) (a.put d undef) w:=
 ⟨by rw[nM];exact h.size,by rw[jU];exact h.defers,h.tmps.app h.size E (λu C=>by cases C;exact PQ ι),h.mem,h.ext,h.new,h.fr,h.low,h.fz,h.gl⟩
def Inv.fresh{n:Nat}{ι0 ι:Inj}{w0:Base}{s:St}{a:Act}{w:World}(h:Inv n ι0 w0 ι s a w):∀b,s.nb<=b->ι b=none:=by
 intro b C;cases hi:ι b with
 | none=>rfl
 | some r=>have:=h.mem.low b r hi;omega
end Go.Abs
