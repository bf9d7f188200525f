
import Derived.Test.YtjkmipianfkncaaGreatDoorAbsCut
import Derived.LoopN
import Derived.Scope
set_option linter.unusedSimpArgs false
set_option linter.unusedVariables false
set_option linter.defProp false
namespace Go.Abs
variable {P:Program}
def xb{α:Type}{E:List Ent}(i:∀x∈E,fK P x){n:Nat}{ι0:Inj}{w0:Base}{ops:List Oper}{k:Ex->St->Option α}{z:α}:
  ∀(l:List Oper) (s:St) (ι:Inj) (a:Act) (w:World),Inv n ι0 w0 ι s a w->Bh P E n ops l s k=some z->
   wpList P ops.toArray (Post n ι0 w0 λex s'=>k ex s'=some z) l a w
 | [],s,ι,a,w,g,h=>⟨.normal,s,ι,rfl,g,h⟩
 | o::l,s,ι,a,w,g,h=>by
  simp only[Bh]at h;obtain⟨f,s',h,d,p,_⟩:=JY g h;unfold wpList;cases f
  ·simp only at h;rw[p];simp only[bs,aC];split at h
   ·rename_i hd;exact xb i l _ ι _ w (d.skip hd) h
   ·cases h
  ·simp only at h;rw[p];simp only[aH];exact .inl (zf i d (λb r=>d.fresh b r) (aQ _) h (λs' e m w' j c=>xb i l s' e m w' c j)
    (λv s' e x m w' j q c=>⟨.pan v,s',e,⟨x,rfl,q⟩,c,j⟩))
def nY{α:Type}{E:List Ent}(p:∀x∈E,fK P x){L:List Sub}{n:Nat}:∀(c:AC) (s:St) (k:Ex->St->Option α) (z:α),jv P n L c->run P E L n c s k=some z->
  SemC P n c.code s λex s'=>k ex s'=some z
 | .skip,s,k,z,_,h=>λι0 w0 ι a w g=>wp_skip ⟨.normal,s,ι,rfl,g,h⟩
 | .ret,s,k,z,_,h=>λι0 w0 ι a w g=>wp_ret ⟨.ret,s,ι,rfl,g,h⟩
 | .exit id,s,k,z,_,h=>λι0 w0 ι a w g=>wp_exit ⟨.exit id,s,ι,rfl,g,h⟩
 | .seq x y,s,k,z,hs,h=>by
  intro ι0 w0 ι a w g;simp only[jv]at hs;simp only[run]at h;refine wp_seq (wp_mono (nY p x s _ z hs.1 h ι0 w0 ι a w g) ?_);rintro e r w' ⟨ex,s',d,f,o,j⟩;cases ex with
  | normal=>simp only[ExR]at f;subst f;exact nY p y s' k z hs.2 j ι0 w0 d r w' o
  | exit id=>simp only[ExR]at f;subst f;exact⟨.exit id,s',d,rfl,o,j⟩
  | ret=>simp only[ExR]at f;subst f;exact⟨.ret,s',d,rfl,o,j⟩
  | pan v=>obtain⟨x,rfl,hx⟩:=f;exact⟨.pan v,s',d,⟨x,rfl,hx⟩,o,j⟩
 | .cond c x y,s,k,z,hs,h=>by
  intro ι0 w0 ι a w g;simp only[jv]at hs;simp only[run]at h;split at h
  ·rename_i b q;have t:=bp g.tmps q;simp only[VR]at t;cases b
   ·exact wp_cond_false t (nY p y s k z hs.2 h ι0 w0 ι a w g)
   ·exact wp_cond_true t (nY p x s k z hs.1 h ι0 w0 ι a w g)
  ·cases h
 | .block id x,s,k,z,hs,h=>by
  intro ι0 w0 ι a w g;simp only[jv]at hs;simp only[run]at h;refine wp_block (wp_mono (nY p x s _ z hs h ι0 w0 ι a w g) ?_);rintro e r w' ⟨ex,s',d,f,o,j⟩;cases ex with
  | normal=>simp only[ExR]at f;subst f;exact⟨.normal,s',d,rfl,o,j⟩
  | exit i=>
   simp only[ExR]at f;subst f;simp only[Exit.inBlock];cases q:Nat.beq i id with
   | true=>
    simp only[q]at j;rw[ae (bD q)];exact⟨.normal,s',d,rfl,o,j⟩
   | false=>
    simp only[q]at j;rw[ab (by rintro rfl;simp at q)];exact⟨.exit i,s',d,rfl,o,j⟩
  | ret=>simp only[ExR]at f;subst f;exact⟨.ret,s',d,rfl,o,j⟩
  | pan v=>obtain⟨x,rfl,hx⟩:=f;exact⟨.pan v,s',d,⟨x,rfl,hx⟩,o,j⟩
 | .reg id ops,s,k,z,_,h=>λι0 w0 ι a w g=>wp_region_lit (xb p ops s ι a w g h)
 | .draw id ops,s,k,z,_,h=>Of p h id
 | .sub m c,s,k,z,hs,h=>by
  simp only[jv]at hs;simp only[run]at h;exact hs α s k z h
 | .loop c,s,k,z,hs,h=>by
  simp only[jv]at hs;simp only[run]at h;intro ι0 w0 ι a w g;refine wp_loop_rounds 12 ?_;generalize 12=m at h
  induction m generalizing s ι a w with
  | zero=>simp[ND]at h
  | succ m ih=>
   rw[rounds_succ];simp only[ND]at h;refine sR ?_ (nY p c s _ z hs h ι0 w0 ι a w g);rintro e r w' ⟨ex,s',d,f,o,j⟩;cases ex with
   | normal=>simp only[ExR]at f;subst f;exact ih s' d r w' (by assumption) (by assumption)
   | exit id=>simp only[ExR]at f;subst f;exact⟨.exit id,s',d,rfl,o,j⟩
   | ret=>simp only[ExR]at f;subst f;exact⟨.ret,s',d,rfl,o,j⟩
   | pan v=>obtain⟨x,rfl,hx⟩:=f;exact⟨.pan v,s',d,⟨x,rfl,hx⟩,o,j⟩
 | .scope c,s,k,z,hs,h=>by
  simp only[jv]at hs;simp only[run]at h;intro ι0 w0 ι a w g;refine wp_scope_straight (sR ?_ (nY p c s _ z hs h ι0 w0 ι a w g));rintro e r w' ⟨ex,s',d,f,o,j⟩;cases ex with
  | normal=>simp only[ExR]at f;subst f;exact⟨.normal,s',d,rfl,o,j⟩
  | exit id=>simp only[ExR]at f;subst f;exact⟨.exit id,s',d,rfl,o,j⟩
  | ret=>simp only[ExR]at f;subst f;exact⟨.ret,s',d,rfl,o,j⟩
  | pan v=>obtain⟨x,rfl,hx⟩:=f;exact⟨.pan v,s',d,⟨x,rfl,hx⟩,o,j⟩
 | .label l,s,k,z,_,h=>λι0 w0 ι a w g=>wp_label ⟨.normal,s,ι,rfl,g,h⟩
 | .bad c,s,k,z,_,h=>by simp[run]at h
def rP:List V->Nat->List (Nat×Option V)
 | [],_=>[]
 | v::l,j=>(j,some v)::rP l (j+1)
def retK{α:Type}(P:Program):List ResultVar->St->(List V->Option α)->Option α
 | [],_,c=>c []
 | .tmp t::r,s,c=>match look s.T t with
  | some (some v)=>retK P r s λl=>c (v::l)
  | _=>none
 | .cell t a::r,s,c=>match look s.T t with
  | some (some (.p b o))=>match look s.H b with
   | some blk=>xC P a blk o λv=>retK P r s λl=>c (v::l)
   | none=>none
  | _=>none
def KH:List V->V
 | [v]=>v
 | l=>.tp l
def finK{α:Type}(P:Program)(a:List ResultVar)(K:Bool->V->St->Option α):Ex->St->Option α
 | .normal,s=>retK P a s λl=>K false (KH l) s
 | .ret,s=>retK P a s λl=>K false (KH l) s
 | .pan v,s=>K true v s
 | .exit _,_=>none
def qB:∀(l:List V) (j t:Nat),look (rP l j) t=if j<=t then(l[t - j]?).map some else none
 | [],j,t=>by simp[rP,look]
 | v::l,j,t=>by
  simp only[rP,aR,qB l (j+1) t];by_cases h:j=t
  ·subst h;simp
  ·simp only[h,aC];by_cases a:j<=t
   ·rw[ae (by omega),ae a,show t - j=(t - (j+1))+1 by omega];rfl
   ·rw[ab (by omega),ab a]
def NV(b:Array Value):ResultVar->Sem Value
 | .tmp t=>pure (b.getD t undef)
 | .cell a t=>do loadVar t (<-asAddr (b.getD a undef))
def ym(fn:Func)(b:Array Value):results fn b=(do
  let a <-fn.results.mapM (NV b)
  pure (if h:a.size=1 then a[0]else .tuple a)):=by
 unfold results;congr 2
def EF{α:Type}{n:Nat}{ι0 ι:Inj}{w0:Base}{s:St}{a:Act}{w:World}(f:Inv n ι0 w0 ι s a w):∀(e:List ResultVar) (c:List V->Option α) (z:α),retK P e s c=some z->
  ∃l d,c l=some z/\VRs ι l d/\(e.mapM (NV a.tmps)).run P w=.ok d w
 | [],c,z,h=>⟨[],[],h,by simp[VRs],rfl⟩
 | .tmp t::e,c,z,h=>by
  simp only[retK]at h;split at h
  ·rename_i v q;obtain⟨x,m,g⟩:=f.tmps t v q;obtain⟨l,d,p,k,i⟩:=EF f e _ z h;refine⟨v::l,x::d,p,by simp only[VRs];exact⟨x,d,rfl,g,k⟩,?_⟩;have hx:a.tmps.getD t undef=x:=by rw[qg,m];rfl
   simp only[DI,NV,aw,aA,ay,i,hx]
  ·cases h
 | .cell t y::e,c,z,h=>by
  simp only[retK]at h;split at h
  ·rename_i b o q;obtain⟨x,m,g⟩:=f.tmps t _ q;split at h
   ·rename_i blk C;obtain⟨v,X,r,E,A,D,B⟩:=E5 f.mem C h;obtain⟨l,d,p,k,i⟩:=EF f e _ z E;refine⟨v::l,X::d,p,by simp only[VRs];exact⟨X,d,rfl,B,k⟩,?_⟩;simp only[VR]at g;obtain⟨F,u,rfl⟩:=g;rw[A]at u;cases u;have hx:a.tmps.getD t undef=.pointer (some ⟨r.r,o,none⟩):=by rw[qg,m];rfl
    have j:(loadVar y ⟨r.r,o,none⟩).run P w=.ok X w:=by
     simpa only[Instr.loadAt,Instr.sureAddr,aw,aA,ay]using D
    simp only[DI,NV,aw,ay,i,hx,asAddr,aA,j]
   ·cases h
  ·cases h
def NR{ι:Inj}{l:List V}{a:List Value}(h:VRs ι l a):VR ι (KH l) (if h:a.toArray.size=1 then a.toArray[0]else .tuple a.toArray):=by
 have c:=h.length;unfold KH;split
 ·rename_i v;simp only[VRs]at h;obtain⟨y,ys,rfl,b,rfl⟩:=h;simpa using b
 ·rename_i d;have:¬a.toArray.size=1:=by
   intro b;simp only[zH]at b;rw[c]at b
   match l,b with
   | [v],_=>exact d v rfl
  rw[dif_neg this];simp only[VR];exact⟨_,rfl,by simpa using h⟩
def yz{α:Type}{fn:Func}{n:Nat}{ι0 ι:Inj}{w0:Base}{s:St}{a:Act}{w:World}(d:Inv n ι0 w0 ι s a w){c:V->Option α}{z:α}
  (h:retK P fn.results.toList s (λl=>c (KH l))=some z):∃v x,c v=some z/\VR ι v x/\(results fn a.tmps).run P w=.ok x w:=by
 obtain⟨l,g,e,b,f⟩:=EF d _ _ _ h;refine⟨_,_,e,NR b,?_⟩;rw[ym,Ou];simp only[aw,Sem.run_map,f,ay,aA]
def Ag{α:Type}(P:Program)(f:Nat)(args:List V)(H0:List (Nat×Blk))(nb0 ro:Nat)(K:Bool->V->St->Option α)(z:α):Prop:=
 ∀(ι0:Inj) (w:World) (a:Array Value),WR ι0 H0 nb0 w->(∀b q,ι0 b=some (some q)->q.fz=true->b<ro)->GL (roI ι0 ro) w->VRs ι0 args a.toList->
  Calls P f a w λe w'=>∃(pan:Bool) (v:V) (s:St) (ι:Inj),K pan v s=some z/\(∀b q,ι0 b=some q->ι b=some q\/s.rb<=b)/\(∀b q,ι b=some (some q)->(∃c,ι0 b=some (some c)/\c.r=q.r)\/w.heap.size<=q.r)/\
   WR ι s.H s.nb w'/\(∀b q,ι b=some (some q)->q.fz=true->b<s.ro)/\Fr (roI ι0 s.ro) w w'/\RetR ι { val:=v,pan:=pan } e
def JA{α:Type}{E:List Ent}(M:∀x∈E,fK P x){L:List Sub}{f:Nat}{fn:Func}{c:Code}{ac:AC}(O:P.funcs[f]?=some fn)(N:fn.body=some c)(hc:ac.code=c)
  (F:jv P fn.ntmps L ac) {args:List V} {H0:List (Nat×Blk)} {nb0 ro rb:Nat} {K:Bool->V->St->Option α} {z:α} (D:Nat.ble args.length fn.ntmps=true)
  (h:run P E L fn.ntmps ac ⟨rP args 0,H0,nb0,nb0,ro,rb⟩ (finK P fn.results.toList K)=some z) (ι0:Inj) (w:World) (d:Array Value) (B:WR ι0 H0 nb0 w) (n:∀b q,ι0 b=some (some q)->q.fz=true->b<ro) (A:GL (roI ι0 ro) w) (hx:VRs ι0 args d.toList):
  Calls P f d w λe w'=>∃(pan:Bool) (v:V) (s:St) (ι:Inj),K pan v s=some z/\(∀b q,ι0 b=some q->ι b=some q\/s.rb<=b)/\(∀b q,ι b=some (some q)->(∃l,ι0 b=some (some l)/\l.r=q.r)\/w.heap.size<=q.r)/\
   WR ι s.H s.nb w'/\(∀b q,ι b=some (some q)->q.fz=true->b<s.ro)/\Fr (roI ι0 s.ro) w w'/\RetR ι { val:=v,pan:=pan } e:=by
 have C:d.size=args.length:=by simpa using hx.length
 have D:=aG D;refine calls_of_wp O N ?_;rw[<-hc];have I:Inv fn.ntmps ι0 ⟨w,[]⟩ ι0 ⟨rP args 0,H0,nb0,nb0,ro,rb⟩ { tmps:=d++Array.replicate (fn.ntmps - d.size) undef,defers:=[] } w:=by
  refine⟨by simp;omega,rfl,λt v m=>?_,B,λ_ _ h=>.inl h,λ_ q h=>.inl ⟨q,h,rfl⟩,Fr.refl _ _,λb r h=>B.low b r h,n,A⟩;rw[qB,ae (dh _)]at m;simp only[rF]at m;cases p:args[t]? with
  | none=>simp[p]at m
  | some u=>
   simp only[p,eO,ar]at m;subst m;obtain⟨x,g,a⟩:=hx.get p;have h1':d[t]?=some x:=by simpa using g
   have y:t<d.size:=by
    rcases aF t d.size with o | o
    ·exact o
    ·rw[xj o]at h1';cases h1'
   exact⟨x,by rw[Qr y];exact h1',a⟩
 refine sR ?_ (nY M ac _ _ z F h ι0 ⟨w,[]⟩ ι0 _ w I);rintro e G w' ⟨ex,s',k,g,a,i⟩;have j:finK P fn.results.toList K .ret s'=some z->∃v,(results fn G.tmps).run P w'=.ok v w'/\∃(pan:Bool) (u:V) (s:St) (ι:Inj),K pan u s=some z/\(∀b q,ι0 b=some q->ι b=some q\/s.rb<=b)/\(∀b q,ι b=some (some q)->(∃l,ι0 b=some (some l)/\l.r=q.r)\/w.heap.size<=q.r)/\
   WR ι s.H s.nb w'/\(∀b q,ι b=some (some q)->q.fz=true->b<s.ro)/\Fr (roI ι0 s.ro) w w'/\RetR ι { val:=u,pan:=pan } (.returned v):=by
  intro i;simp only[finK]at i;obtain⟨v,x,Q,J,R⟩:=yz (fn:=fn) (c:=λv=>K false v s') a i;exact⟨x,R,false,v,s',k,Q,a.ext,a.new,a.mem,a.fz,a.fr,rfl,J⟩
 cases ex with
 | normal=>
  simp only[ExR]at g;subst g;exact⟨a.defers,j i⟩
 | ret=>
  simp only[ExR]at g;subst g;exact⟨a.defers,j i⟩
 | exit id=>simp[finK]at i
 | pan v=>
  obtain⟨x,rfl,hx⟩:=g;exact⟨a.defers,true,v,s',k,i,a.ext,a.new,a.mem,a.fz,a.fr,rfl,x,rfl,hx⟩
mutual
def V.flat:V->Bool
 | .b _ | .i _ _ | .s _ | .pn | .sn | .nf | .ni | .ai _ _ _ | .unk=>true
 | .p _ _ | .sl _ _ _ _ | .pr _ _ _ _ | .ws _ | .rs _ _ _ _ _ | .mp _=>false
 | .fn _ l | .ag l | .tp l=>V.flats l
 | .it _ v=>V.flat v
def V.flats:List V->Bool
 | []=>true
 | v::l=>V.flat v&&V.flats l
end
mutual
def VR.flat{ι J:Inj}:∀(v:V) (x:Value),V.flat v=true->VR ι v x->VR J v x
 | .b _,_,_,hx | .i _ _,_,_,hx | .s _,_,_,hx | .pn,_,_,hx | .sn,_,_,hx | .nf,_,_,hx | .ni,_,_,hx | .ai _ _ _,_,_,hx | .unk,_,_,hx=>by simpa only[VR]using hx
 | .p b o,x,C,hx=>by simp[V.flat]at C
 | .mp b,x,C,hx=>by simp[V.flat]at C
 | .pr z b j o,x,C,hx=>by simp[V.flat]at C
 | .ws b,x,C,hx=>by simp[V.flat]at C
 | .rs z b j n _,x,C,hx=>by simp[V.flat]at C
 | .sl b o len cap,x,C,hx=>by simp[V.flat]at C
 | .fn f cap,x,C,hx=>by
  simp only[V.flat]at C;simp only[VR]at hx ⊢;obtain⟨G,F,E⟩:=hx;exact⟨G,F,VRs.flat _ _ C E⟩
 | .it t v,x,C,hx=>by
  simp only[V.flat]at C;simp only[VR]at hx ⊢;obtain⟨y,F,E⟩:=hx;exact⟨y,F,VR.flat _ _ C E⟩
 | .ag l,x,C,hx=>by
  simp only[V.flat]at C;simp only[VR]at hx ⊢;obtain⟨G,F,E⟩:=hx;exact⟨G,F,VRs.flat _ _ C E⟩
 | .tp l,x,C,hx=>by
  simp only[V.flat]at C;simp only[VR]at hx ⊢;obtain⟨G,F,E⟩:=hx;exact⟨G,F,VRs.flat _ _ C E⟩
def VRs.flat{ι C:Inj}:∀(l:List V) (F:List Value),V.flats l=true->VRs ι l F->VRs C l F
 | [],_,_,hx=>by simpa[VRs]using hx
 | v::l,F,E,hx=>by
  simp only[V.flats,aB]at E;simp only[VRs]at hx ⊢;obtain⟨y,ys,J,G,O⟩:=hx;exact⟨y,ys,J,VR.flat _ _ E.1 G,VRs.flat _ _ E.2 O⟩
end
def jo:Inj:=λ_=>none
def kL(P:Program)(f:Nat)(args:List V)(v:V):Prop:=
 ∀(w:World) (a:Array Value),GL jo w->VRs jo args a.toList->Calls P f a w λe w'=>∃x,e=.returned x/\VR jo v x/\Fr jo w w'
def I0{ro:Nat}{w w':World}(h:Fr (roI jo ro) w w'):Fr jo w w':=by
 have:roI jo ro=jo:=by
  funext b;unfold roI jo;cases Nat.blt b ro<;>rfl
 rwa[this]at h
def WR.nothing(w:World):WR jo [] 0 w:=⟨λ_ _ _ _ h=>(by cases h),λ_ _ h=>(by cases h),λ_ _ h=>(by cases h),λ_ _ h=>(by cases h)⟩
def kL.call{f:Nat}{args:List V}{v:V}(h:kL P f args v)(X:V.flats args=true)(H:List (Nat×Blk))(fr:Nat):Gj P f args H fr { val:=v }:=by
 intro ι nb w U E Q _ _ hx;refine(h w U (Q.mono λb q h=>by cases h) (VRs.flat _ _ X hx)).mono λe w' ⟨x,F,G,C⟩=>?_;subst F;have Y:=C.size;refine⟨ι,λ_ _ _=>rfl,λb q F=>by simp[isIn]at F,λb q F G=>by simp at G;omega,λ_ _ h _=>h,?_,?_,rfl,VR.mono (λ_ _ h=>by cases h) _ _ G⟩
 ·simp only[dW,sL];refine⟨E.inj,λb r J=>?_,λb r J=>?_,λb blk O hd=>?_⟩
  ·have:=E.low b r J;omega
  ·have:=E.dom b r J;omega
  ·exact(E.blk b blk O hd).map rfl (λq Z=>C.blk q.r (E.dom b q Z) (λ_ _ h=>by cases h)) (λ_ _ x=>x) (λ_ x=>x)
 ·refine⟨C.os,C.tape,C.output,C.size,λk W _=>C.blk k W (λ_ _ h=>by cases h)⟩
end Go.Abs
