
import Derived.Test.YtadejcglcffgbabGreatDoorAbsCut
import Derived.LoopN
import Derived.Scope
set_option linter.unusedSimpArgs false
set_option linter.unusedVariables false
set_option linter.defProp false
namespace Go.Abs
variable {P:Program}
def sE{α:Type}{E:List Ent}(i:∀x∈E,ib P x){n:Nat}{ι0:Inj}{w0:Base}{ops:List Oper}{k:Ex->St->Option α}{z:α}:
  ∀(l:List Oper) (s:St) (ι:Inj) (a:Act) (w:World),Inv n ι0 w0 ι s a w->xB P E n ops l s k=some z->
   wpList P ops.toArray (Post n ι0 w0 λex s'=>k ex s'=some z) l a w
 | [],s,ι,a,w,j,h=>⟨.normal,s,ι,rfl,j,h⟩
 | o::l,s,ι,a,w,j,h=>by
  simp only[xB]at h;obtain⟨f,s',h,d,m,_⟩:=F5 j h;unfold wpList;cases f
  ·simp only at h;rw[m];simp only[cj,aG];split at h
   ·rename_i r;exact sE i l _ ι _ w (d.skip r) h
   ·cases h
  ·simp only at h;rw[m];simp only[bc];exact .inl (A5 i d (λb q=>d.fresh b q) (aV _) h (λs' e p w' g c=>sE i l s' e p w' c g)
    (λv s' e x p w' g t c=>⟨.pan v,s',e,⟨x,rfl,t⟩,c,g⟩))
def ot{α:Type}{E:List Ent}(p:∀x∈E,ib P x){L:List Sub}{n:Nat}:∀(c:AC) (s:St) (k:Ex->St->Option α) (z:α),mA P n L c->run P E L n c s k=some z->
  SemC P n c.code s λex s'=>k ex s'=some z
 | .skip,s,k,z,_,h=>λι0 w0 ι a w j=>wp_skip ⟨.normal,s,ι,rfl,j,h⟩
 | .ret,s,k,z,_,h=>λι0 w0 ι a w j=>wp_ret ⟨.ret,s,ι,rfl,j,h⟩
 | .exit id,s,k,z,_,h=>λι0 w0 ι a w j=>wp_exit ⟨.exit id,s,ι,rfl,j,h⟩
 | .seq x y,s,k,z,hs,h=>by
  intro ι0 w0 ι a w j;simp only[mA]at hs;simp only[run]at h;refine wp_seq (wp_mono (ot p x s _ z hs.1 h ι0 w0 ι a w j) ?_);rintro e r w' ⟨ex,s',d,f,o,g⟩;cases ex with
  | normal=>simp only[ExR]at f;subst f;exact ot p y s' k z hs.2 g ι0 w0 d r w' o
  | exit id=>simp only[ExR]at f;subst f;exact⟨.exit id,s',d,rfl,o,g⟩
  | ret=>simp only[ExR]at f;subst f;exact⟨.ret,s',d,rfl,o,g⟩
  | pan v=>obtain⟨x,rfl,hx⟩:=f;exact⟨.pan v,s',d,⟨x,rfl,hx⟩,o,g⟩
 | .cond c x y,s,k,z,hs,h=>by
  intro ι0 w0 ι a w j;simp only[mA]at hs;simp only[run]at h;split at h
  ·rename_i b q;have t:=aZ j.tmps q;simp only[VR]at t;cases b
   ·exact wp_cond_false t (ot p y s k z hs.2 h ι0 w0 ι a w j)
   ·exact wp_cond_true t (ot p x s k z hs.1 h ι0 w0 ι a w j)
  ·cases h
 | .block id x,s,k,z,hs,h=>by
  intro ι0 w0 ι a w j;simp only[mA]at hs;simp only[run]at h;refine wp_block (wp_mono (ot p x s _ z hs h ι0 w0 ι a w j) ?_);rintro e r w' ⟨ex,s',d,f,o,g⟩;cases ex with
  | normal=>simp only[ExR]at f;subst f;exact⟨.normal,s',d,rfl,o,g⟩
  | exit i=>
   simp only[ExR]at f;subst f;simp only[Exit.inBlock];cases q:Nat.beq i id with
   | true=>
    simp only[q]at g;rw[ad (be q)];exact⟨.normal,s',d,rfl,o,g⟩
   | false=>
    simp only[q]at g;rw[ab (by rintro rfl;simp at q)];exact⟨.exit i,s',d,rfl,o,g⟩
  | ret=>simp only[ExR]at f;subst f;exact⟨.ret,s',d,rfl,o,g⟩
  | pan v=>obtain⟨x,rfl,hx⟩:=f;exact⟨.pan v,s',d,⟨x,rfl,hx⟩,o,g⟩
 | .reg id ops,s,k,z,_,h=>λι0 w0 ι a w j=>wp_region_lit (sE p ops s ι a w j h)
 | .draw id ops,s,k,z,_,h=>IY p h id
 | .sub m c,s,k,z,hs,h=>by
  simp only[mA]at hs;simp only[run]at h;exact hs α s k z h
 | .loop c,s,k,z,hs,h=>by
  simp only[mA]at hs;simp only[run]at h;intro ι0 w0 ι a w j;refine wp_loop_rounds 12 ?_;generalize 12=m at h
  induction m generalizing s ι a w with
  | zero=>simp[IR]at h
  | succ m ih=>
   rw[rounds_succ];simp only[IR]at h;refine sg ?_ (ot p c s _ z hs h ι0 w0 ι a w j);rintro e r w' ⟨ex,s',d,f,o,g⟩;cases ex with
   | normal=>simp only[ExR]at f;subst f;exact ih s' d r w' (by assumption) (by assumption)
   | exit id=>simp only[ExR]at f;subst f;exact⟨.exit id,s',d,rfl,o,g⟩
   | ret=>simp only[ExR]at f;subst f;exact⟨.ret,s',d,rfl,o,g⟩
   | pan v=>obtain⟨x,rfl,hx⟩:=f;exact⟨.pan v,s',d,⟨x,rfl,hx⟩,o,g⟩
 | .scope c,s,k,z,hs,h=>by
  simp only[mA]at hs;simp only[run]at h;intro ι0 w0 ι a w j;refine wp_scope_straight (sg ?_ (ot p c s _ z hs h ι0 w0 ι a w j));rintro e r w' ⟨ex,s',d,f,o,g⟩;cases ex with
  | normal=>simp only[ExR]at f;subst f;exact⟨.normal,s',d,rfl,o,g⟩
  | exit id=>simp only[ExR]at f;subst f;exact⟨.exit id,s',d,rfl,o,g⟩
  | ret=>simp only[ExR]at f;subst f;exact⟨.ret,s',d,rfl,o,g⟩
  | pan v=>obtain⟨x,rfl,hx⟩:=f;exact⟨.pan v,s',d,⟨x,rfl,hx⟩,o,g⟩
 | .label l,s,k,z,_,h=>λι0 w0 ι a w j=>wp_label ⟨.normal,s,ι,rfl,j,h⟩
 | .bad c,s,k,z,_,h=>by simp[run]at h
def wZ:List V->Nat->List (Nat×Option V)
 | [],_=>[]
 | v::l,j=>(j,some v)::wZ l (j+1)
def retK{α:Type}(P:Program):List ResultVar->St->(List V->Option α)->Option α
 | [],_,c=>c []
 | .tmp t::r,s,c=>match look s.T t with
  | some (some v)=>retK P r s λl=>c (v::l)
  | _=>none
 | .cell t a::r,s,c=>match look s.T t with
  | some (some (.p b o))=>match look s.H b with
   | some blk=>uu P a blk o λv=>retK P r s λl=>c (v::l)
   | none=>none
  | _=>none
def EV:List V->V
 | [v]=>v
 | l=>.tp l
def finK{α:Type}(P:Program)(a:List ResultVar)(K:Bool->V->St->Option α):Ex->St->Option α
 | .normal,s=>retK P a s λl=>K false (EV l) s
 | .ret,s=>retK P a s λl=>K false (EV l) s
 | .pan v,s=>K true v s
 | .exit _,_=>none
def uO:∀(l:List V) (j t:Nat),look (wZ l j) t=if j<=t then(l[t - j]?).map some else none
 | [],j,t=>by simp[wZ,look]
 | v::l,j,t=>by
  simp only[wZ,aO,uO l (j+1) t];by_cases h:j=t
  ·subst h;simp
  ·simp only[h,aG];by_cases a:j<=t
   ·rw[ad (by omega),ad a,show t - j=(t - (j+1))+1 by omega];rfl
   ·rw[ab (by omega),ab a]
def HV(b:Array Value):ResultVar->Sem Value
 | .tmp t=>pure (b.getD t undef)
 | .cell a t=>do loadVar t (<-asAddr (b.getD a undef))
def Dj(fn:Func)(b:Array Value):results fn b=(do
  let a <-fn.results.mapM (HV b)
  pure (if h:a.size=1 then a[0]else .tuple a)):=by
 unfold results;congr 2
def za{α:Type}{n:Nat}{ι0 ι:Inj}{w0:Base}{s:St}{a:Act}{w:World}(f:Inv n ι0 w0 ι s a w):∀(e:List ResultVar) (c:List V->Option α) (z:α),retK P e s c=some z->
  ∃l d,c l=some z/\VRs ι l d/\(e.mapM (HV a.tmps)).run P w=.ok d w
 | [],c,z,h=>⟨[],[],h,by simp[VRs],rfl⟩
 | .tmp t::e,c,z,h=>by
  simp only[retK]at h;split at h
  ·rename_i v p;obtain⟨x,q,g⟩:=f.tmps t v p;obtain⟨l,d,i,k,j⟩:=za f e _ z h;refine⟨v::l,x::d,i,by simp only[VRs];exact⟨x,d,rfl,g,k⟩,?_⟩;have hx:a.tmps.getD t undef=x:=by rw[nD,q];rfl
   simp only[sV,HV,ax,aA,az,j,hx]
  ·cases h
 | .cell t E::e,c,z,h=>by
  simp only[retK]at h;split at h
  ·rename_i b o p;obtain⟨x,q,g⟩:=f.tmps t _ p;split at h
   ·rename_i blk y;obtain⟨v,X,r,C,A,D,B⟩:=B8 f.mem y h;obtain⟨l,d,i,k,j⟩:=za f e _ z C;refine⟨v::l,X::d,i,by simp only[VRs];exact⟨X,d,rfl,B,k⟩,?_⟩;simp only[VR]at g;obtain⟨F,u,rfl⟩:=g;rw[A]at u;cases u;have hx:a.tmps.getD t undef=.pointer (some ⟨r.r,o,none⟩):=by rw[nD,q];rfl
    have m:(loadVar E ⟨r.r,o,none⟩).run P w=.ok X w:=by
     simpa only[Instr.loadAt,Instr.sureAddr,ax,aA,az]using D
    simp only[sV,HV,ax,az,j,hx,asAddr,aA,m]
   ·cases h
  ·cases h
def IX{ι:Inj}{l:List V}{a:List Value}(h:VRs ι l a):VR ι (EV l) (if h:a.toArray.size=1 then a.toArray[0]else .tuple a.toArray):=by
 have c:=h.length;unfold EV;split
 ·rename_i v;simp only[VRs]at h;obtain⟨y,e,rfl,b,rfl⟩:=h;simpa using b
 ·rename_i d;have:¬a.toArray.size=1:=by
   intro b;simp only[wQ]at b;rw[c]at b
   match l,b with
   | [v],_=>exact d v rfl
  rw[dif_neg this];simp only[VR];exact⟨_,rfl,by simpa using h⟩
def Do{α:Type}{fn:Func}{n:Nat}{ι0 ι:Inj}{w0:Base}{s:St}{a:Act}{w:World}(e:Inv n ι0 w0 ι s a w){c:V->Option α}{z:α}
  (h:retK P fn.results.toList s (λl=>c (EV l))=some z):∃v x,c v=some z/\VR ι v x/\(results fn a.tmps).run P w=.ok x w:=by
 obtain⟨l,g,f,d,b⟩:=za e _ _ _ h;refine⟨_,_,f,IX d,?_⟩;rw[Dj,Js];simp only[ax,Sem.run_map,b,az,aA]
def D6{α:Type}(P:Program)(f:Nat)(args:List V)(H0:List (Nat×Blk))(nb0 ro:Nat)(K:Bool->V->St->Option α)(z:α):Prop:=
 ∀(ι0:Inj) (w:World) (c:Array Value),WR ι0 H0 nb0 w->(∀b q,ι0 b=some (some q)->q.fz=true->b<ro)->GL (roI ι0 ro) w->VRs ι0 args c.toList->
  Calls P f c w λe w'=>∃(pan:Bool) (v:V) (s:St) (ι:Inj),K pan v s=some z/\(∀b q,ι0 b=some q->ι b=some q\/s.rb<=b)/\(∀b q,ι b=some (some q)->(∃a,ι0 b=some (some a)/\a.r=q.r)\/w.heap.size<=q.r)/\
   WR ι s.H s.nb w'/\(∀b q,ι b=some (some q)->q.fz=true->b<s.ro)/\Fr (roI ι0 s.ro) w w'/\RetR ι { val:=v,pan:=pan } e
def D4{α:Type}{E:List Ent}(G:∀x∈E,ib P x){L:List Sub}{f:Nat}{fn:Func}{c:Code}{ac:AC}(D:P.funcs[f]?=some fn)(N:fn.body=some c)(hc:ac.code=c)
  (O:mA P fn.ntmps L ac) {args:List V} {H0:List (Nat×Blk)} {nb0 ro rb:Nat} {K:Bool->V->St->Option α} {z:α} (C:Nat.ble args.length fn.ntmps=true)
  (h:run P E L fn.ntmps ac ⟨wZ args 0,H0,nb0,nb0,ro,rb⟩ (finK P fn.results.toList K)=some z) (ι0:Inj) (w:World) (d:Array Value) (B:WR ι0 H0 nb0 w) (o:∀b q,ι0 b=some (some q)->q.fz=true->b<ro) (p:GL (roI ι0 ro) w) (hx:VRs ι0 args d.toList):
  Calls P f d w λe w'=>∃(pan:Bool) (v:V) (s:St) (ι:Inj),K pan v s=some z/\(∀b q,ι0 b=some q->ι b=some q\/s.rb<=b)/\(∀b q,ι b=some (some q)->(∃l,ι0 b=some (some l)/\l.r=q.r)\/w.heap.size<=q.r)/\
   WR ι s.H s.nb w'/\(∀b q,ι b=some (some q)->q.fz=true->b<s.ro)/\Fr (roI ι0 s.ro) w w'/\RetR ι { val:=v,pan:=pan } e:=by
 have A:d.size=args.length:=by simpa using hx.length
 have C:=aJ C;refine calls_of_wp D N ?_;rw[<-hc];have J:Inv fn.ntmps ι0 ⟨w,[]⟩ ι0 ⟨wZ args 0,H0,nb0,nb0,ro,rb⟩ { tmps:=d++Array.replicate (fn.ntmps - d.size) undef,defers:=[] } w:=by
  refine⟨by simp;omega,rfl,λt v k=>?_,B,λ_ _ h=>.inl h,λ_ q h=>.inl ⟨q,h,rfl⟩,Fr.refl _ _,λb r h=>B.low b r h,o,p⟩;rw[uO,ad (oL _)]at k;simp only[Nat.sub_zero]at k;cases m:args[t]? with
  | none=>simp[m]at k
  | some u=>
   simp only[m,ek,aq]at k;subst k;obtain⟨x,i,a⟩:=hx.get m;have h1':d[t]?=some x:=by simpa using i
   have n:t<d.size:=by
    rcases aI t d.size with y | y
    ·exact y
    ·rw[uv y]at h1';cases h1'
   exact⟨x,by rw[Array.getElem?_append_left n];exact h1',a⟩
 refine sg ?_ (ot G ac _ _ z O h ι0 ⟨w,[]⟩ ι0 _ w J);rintro e F w' ⟨ex,s',j,i,a,g⟩;have fin:finK P fn.results.toList K .ret s'=some z->∃v,(results fn F.tmps).run P w'=.ok v w'/\∃(pan:Bool) (u:V) (s:St) (ι:Inj),K pan u s=some z/\(∀b q,ι0 b=some q->ι b=some q\/s.rb<=b)/\(∀b q,ι b=some (some q)->(∃l,ι0 b=some (some l)/\l.r=q.r)\/w.heap.size<=q.r)/\
   WR ι s.H s.nb w'/\(∀b q,ι b=some (some q)->q.fz=true->b<s.ro)/\Fr (roI ι0 s.ro) w w'/\RetR ι { val:=u,pan:=pan } (.returned v):=by
  intro g;simp only[finK]at g;obtain⟨v,x,M,I,Q⟩:=Do (fn:=fn) (c:=λv=>K false v s') a g;exact⟨x,Q,false,v,s',j,M,a.ext,a.new,a.mem,a.fz,a.fr,rfl,I⟩
 cases ex with
 | normal=>
  simp only[ExR]at i;subst i;exact⟨a.defers,fin g⟩
 | ret=>
  simp only[ExR]at i;subst i;exact⟨a.defers,fin g⟩
 | exit id=>simp[finK]at g
 | pan v=>
  obtain⟨x,rfl,hx⟩:=i;exact⟨a.defers,true,v,s',j,g,a.ext,a.new,a.mem,a.fz,a.fr,rfl,x,rfl,hx⟩
mutual
def V.flat:V->Bool
 | .b _ | .i _ _ | .s _ | .pn | .sn | .nf | .ni | .ai _ _ _ | .unk=>true
 | .p _ _ | .sl _ _ _ _ | .pr _ _ _ _ | .ws _ | .rs _ _ _ _ _ | .mp _=>false
 | .fn _ l | .ag l | .tp l=>V.flats l
 | .it _ v=>V.flat v
def V.flats:List V->Bool
 | []=>true
 | v::l=>V.flat v&&V.flats l
end
mutual
def VR.flat{ι G:Inj}:∀(v:V) (x:Value),V.flat v=true->VR ι v x->VR G v x
 | .b _,_,_,hx | .i _ _,_,_,hx | .s _,_,_,hx | .pn,_,_,hx | .sn,_,_,hx | .nf,_,_,hx | .ni,_,_,hx | .ai _ _ _,_,_,hx | .unk,_,_,hx=>by simpa only[VR]using hx
 | .p b o,x,A,hx=>by simp[V.flat]at A
 | .mp b,x,A,hx=>by simp[V.flat]at A
 | .pr z b j o,x,A,hx=>by simp[V.flat]at A
 | .ws b,x,A,hx=>by simp[V.flat]at A
 | .rs z b j n _,x,A,hx=>by simp[V.flat]at A
 | .sl b o len cap,x,A,hx=>by simp[V.flat]at A
 | .fn f cap,x,A,hx=>by
  simp only[V.flat]at A;simp only[VR]at hx ⊢;obtain⟨F,E,C⟩:=hx;exact⟨F,E,VRs.flat _ _ A C⟩
 | .it t v,x,A,hx=>by
  simp only[V.flat]at A;simp only[VR]at hx ⊢;obtain⟨y,E,C⟩:=hx;exact⟨y,E,VR.flat _ _ A C⟩
 | .ag l,x,A,hx=>by
  simp only[V.flat]at A;simp only[VR]at hx ⊢;obtain⟨F,E,C⟩:=hx;exact⟨F,E,VRs.flat _ _ A C⟩
 | .tp l,x,A,hx=>by
  simp only[V.flat]at A;simp only[VR]at hx ⊢;obtain⟨F,E,C⟩:=hx;exact⟨F,E,VRs.flat _ _ A C⟩
def VRs.flat{ι C:Inj}:∀(l:List V) (A:List Value),V.flats l=true->VRs ι l A->VRs C l A
 | [],_,_,hx=>by simpa[VRs]using hx
 | v::l,A,E,hx=>by
  simp only[V.flats,aC]at E;simp only[VRs]at hx ⊢;obtain⟨y,J,M,G,F⟩:=hx;exact⟨y,J,M,VR.flat _ _ E.1 G,VRs.flat _ _ E.2 F⟩
end
def ii:Inj:=λ_=>none
def kV(P:Program)(f:Nat)(args:List V)(v:V):Prop:=
 ∀(w:World) (a:Array Value),GL ii w->VRs ii args a.toList->Calls P f a w λe w'=>∃x,e=.returned x/\VR ii v x/\Fr ii w w'
def EE{ro:Nat}{w w':World}(h:Fr (roI ii ro) w w'):Fr ii w w':=by
 have:roI ii ro=ii:=by
  funext b;unfold roI ii;cases Nat.blt b ro<;>rfl
 rwa[this]at h
def WR.nothing(w:World):WR ii [] 0 w:=⟨λ_ _ _ _ h=>(by cases h),λ_ _ h=>(by cases h),λ_ _ h=>(by cases h),λ_ _ h=>(by cases h)⟩
def kV.call{f:Nat}{args:List V}{v:V}(h:kV P f args v)(X:V.flats args=true)(H:List (Nat×Blk))(fr:Nat):CG P f args H fr { val:=v }:=by
 intro ι nb w M C U _ _ hx;refine(h w M (U.mono λb q h=>by cases h) (VRs.flat _ _ X hx)).mono λe w' ⟨x,E,G,A⟩=>?_;subst E;have O:=A.size;refine⟨ι,λ_ _ _=>rfl,λb q E=>by simp[isIn]at E,λb q E G=>by simp at G;omega,λ_ _ h _=>h,?_,?_,rfl,VR.mono (λ_ _ h=>by cases h) _ _ G⟩
 ·simp only[gP,pH];refine⟨C.inj,λb r F=>?_,λb r F=>?_,λb blk Q W=>?_⟩
  ·have:=C.low b r F;omega
  ·have:=C.dom b r F;omega
  ·exact(C.blk b blk Q W).map rfl (λq Y=>A.blk q.r (C.dom b q Y) (λ_ _ h=>by cases h)) (λ_ _ x=>x) (λ_ x=>x)
 ·refine⟨A.os,A.tape,A.output,A.size,λk J _=>A.blk k J (λ_ _ h=>by cases h)⟩
end Go.Abs
