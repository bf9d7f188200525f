
import Derived.Test.YtibehcmomiplnabGreatDoorAbsCut
import Derived.LoopN
import Derived.Scope
set_option linter.unusedSimpArgs false
set_option linter.unusedVariables false
set_option linter.defProp false
namespace Go.Abs
variable {P:Program}
def zn{α:Type}{E:List Ent}(j:∀x∈E,gV P x){n:Nat}{ι0:Inj}{w0:Base}{ops:List Oper}{k:Ex->St->Option α}{z:α}:
  ∀(l:List Oper) (s:St) (ι:Inj) (a:Act) (w:World),Inv n ι0 w0 ι s a w->F7 P E n ops l s k=some z->
   wpList P ops.toArray (Post n ι0 w0 λex s'=>k ex s'=some z) l a w
 | [],s,ι,a,w,g,h=>⟨.normal,s,ι,rfl,g,h⟩
 | o::l,s,ι,a,w,g,h=>by
  simp only[F7]at h;obtain⟨f,s',h,e,p,_⟩:=Og g h;unfold wpList;cases f
  ·simp only at h;rw[p];simp only[bI,aF];split at h
   ·rename_i t;exact zn j l _ ι _ w (e.skip t) h
   ·cases h
  ·simp only at h;rw[p];simp only[aS];exact .inl (Eo j e (λb r=>e.fresh b r) (bi _) h (λs' d m w' i c=>zn j l s' d m w' c i)
    (λv s' d x m w' i q c=>⟨.pan v,s',d,⟨x,rfl,q⟩,c,i⟩))
def rF{α:Type}{E:List Ent}(p:∀x∈E,gV P x){L:List Sub}{n:Nat}:∀(c:AC) (s:St) (k:Ex->St->Option α) (z:α),ln P n L c->run P E L n c s k=some z->
  SemC P n c.code s λex s'=>k ex s'=some z
 | .skip,s,k,z,_,h=>λι0 w0 ι a w g=>wp_skip ⟨.normal,s,ι,rfl,g,h⟩
 | .ret,s,k,z,_,h=>λι0 w0 ι a w g=>wp_ret ⟨.ret,s,ι,rfl,g,h⟩
 | .exit id,s,k,z,_,h=>λι0 w0 ι a w g=>wp_exit ⟨.exit id,s,ι,rfl,g,h⟩
 | .seq x y,s,k,z,hs,h=>by
  intro ι0 w0 ι a w g;simp only[ln]at hs;simp only[run]at h;refine wp_seq (wp_mono (rF p x s _ z hs.1 h ι0 w0 ι a w g) ?_);rintro e r w' ⟨ex,s',d,f,o,j⟩;cases ex with
  | normal=>simp only[ExR]at f;subst f;exact rF p y s' k z hs.2 j ι0 w0 d r w' o
  | exit id=>simp only[ExR]at f;subst f;exact⟨.exit id,s',d,rfl,o,j⟩
  | ret=>simp only[ExR]at f;subst f;exact⟨.ret,s',d,rfl,o,j⟩
  | pan v=>obtain⟨x,rfl,hx⟩:=f;exact⟨.pan v,s',d,⟨x,rfl,hx⟩,o,j⟩
 | .cond c x y,s,k,z,hs,h=>by
  intro ι0 w0 ι a w g;simp only[ln]at hs;simp only[run]at h;split at h
  ·rename_i b q;have t:=bL g.tmps q;simp only[VR]at t;cases b
   ·exact wp_cond_false t (rF p y s k z hs.2 h ι0 w0 ι a w g)
   ·exact wp_cond_true t (rF p x s k z hs.1 h ι0 w0 ι a w g)
  ·cases h
 | .block id x,s,k,z,hs,h=>by
  intro ι0 w0 ι a w g;simp only[ln]at hs;simp only[run]at h;refine wp_block (wp_mono (rF p x s _ z hs h ι0 w0 ι a w g) ?_);rintro e r w' ⟨ex,s',d,f,o,j⟩;cases ex with
  | normal=>simp only[ExR]at f;subst f;exact⟨.normal,s',d,rfl,o,j⟩
  | exit i=>
   simp only[ExR]at f;subst f;simp only[Exit.inBlock];cases q:Nat.beq i id with
   | true=>
    simp only[q]at j;rw[ae (bO q)];exact⟨.normal,s',d,rfl,o,j⟩
   | false=>
    simp only[q]at j;rw[ab (by rintro rfl;simp at q)];exact⟨.exit i,s',d,rfl,o,j⟩
  | ret=>simp only[ExR]at f;subst f;exact⟨.ret,s',d,rfl,o,j⟩
  | pan v=>obtain⟨x,rfl,hx⟩:=f;exact⟨.pan v,s',d,⟨x,rfl,hx⟩,o,j⟩
 | .reg id ops,s,k,z,_,h=>λι0 w0 ι a w g=>wp_region_lit (zn p ops s ι a w g h)
 | .draw id ops,s,k,z,_,h=>SQ p h id
 | .sub m c,s,k,z,hs,h=>by
  simp only[ln]at hs;simp only[run]at h;exact hs α s k z h
 | .loop c,s,k,z,hs,h=>by
  simp only[ln]at hs;simp only[run]at h;intro ι0 w0 ι a w g;refine wp_loop_rounds 12 ?_;generalize 12=m at h
  induction m generalizing s ι a w with
  | zero=>simp[Uc]at h
  | succ m ih=>
   rw[rounds_succ];simp only[Uc]at h;refine wh ?_ (rF p c s _ z hs h ι0 w0 ι a w g);rintro e r w' ⟨ex,s',d,f,o,j⟩;cases ex with
   | normal=>simp only[ExR]at f;subst f;exact ih s' d r w' (by assumption) (by assumption)
   | exit id=>simp only[ExR]at f;subst f;exact⟨.exit id,s',d,rfl,o,j⟩
   | ret=>simp only[ExR]at f;subst f;exact⟨.ret,s',d,rfl,o,j⟩
   | pan v=>obtain⟨x,rfl,hx⟩:=f;exact⟨.pan v,s',d,⟨x,rfl,hx⟩,o,j⟩
 | .scope c,s,k,z,hs,h=>by
  simp only[ln]at hs;simp only[run]at h;intro ι0 w0 ι a w g;refine wp_scope_straight (wh ?_ (rF p c s _ z hs h ι0 w0 ι a w g));rintro e r w' ⟨ex,s',d,f,o,j⟩;cases ex with
  | normal=>simp only[ExR]at f;subst f;exact⟨.normal,s',d,rfl,o,j⟩
  | exit id=>simp only[ExR]at f;subst f;exact⟨.exit id,s',d,rfl,o,j⟩
  | ret=>simp only[ExR]at f;subst f;exact⟨.ret,s',d,rfl,o,j⟩
  | pan v=>obtain⟨x,rfl,hx⟩:=f;exact⟨.pan v,s',d,⟨x,rfl,hx⟩,o,j⟩
 | .label l,s,k,z,_,h=>λι0 w0 ι a w g=>wp_label ⟨.normal,s,ι,rfl,g,h⟩
 | .bad c,s,k,z,_,h=>by simp[run]at h
def vp:List V->Nat->List (Nat×Option V)
 | [],_=>[]
 | v::l,j=>(j,some v)::vp l (j+1)
def retK{α:Type}(P:Program):List ResultVar->St->(List V->Option α)->Option α
 | [],_,c=>c []
 | .tmp t::r,s,c=>match look s.T t with
  | some (some v)=>retK P r s λl=>c (v::l)
  | _=>none
 | .cell t a::r,s,c=>match look s.T t with
  | some (some (.p b o))=>match look s.H b with
   | some blk=>BC P a blk o λv=>retK P r s λl=>c (v::l)
   | none=>none
  | _=>none
def Pl:List V->V
 | [v]=>v
 | l=>.tp l
def finK{α:Type}(P:Program)(a:List ResultVar)(K:Bool->V->St->Option α):Ex->St->Option α
 | .normal,s=>retK P a s λl=>K false (Pl l) s
 | .ret,s=>retK P a s λl=>K false (Pl l) s
 | .pan v,s=>K true v s
 | .exit _,_=>none
def uT:∀(l:List V) (j t:Nat),look (vp l j) t=if j<=t then(l[t - j]?).map some else none
 | [],j,t=>by simp[vp,look]
 | v::l,j,t=>by
  simp only[vp,bh,uT l (j+1) t];by_cases h:j=t
  ·subst h;simp
  ·simp only[h,aF];by_cases a:j<=t
   ·rw[ae (by omega),ae a,show t - j=(t - (j+1))+1 by omega];rfl
   ·rw[ab (by omega),ab a]
def TU(b:Array Value):ResultVar->Sem Value
 | .tmp t=>pure (b.getD t undef)
 | .cell a t=>do loadVar t (<-asAddr (b.getD a undef))
def Df(fn:Func)(b:Array Value):results fn b=(do
  let a <-fn.results.mapM (TU b)
  pure (if h:a.size=1 then a[0]else .tuple a)):=by
 unfold results;congr 2
def I8{α:Type}{n:Nat}{ι0 ι:Inj}{w0:Base}{s:St}{a:Act}{w:World}(f:Inv n ι0 w0 ι s a w):∀(e:List ResultVar) (c:List V->Option α) (z:α),retK P e s c=some z->
  ∃l d,c l=some z/\VRs ι l d/\(e.mapM (TU a.tmps)).run P w=.ok d w
 | [],c,z,h=>⟨[],[],h,by simp[VRs],rfl⟩
 | .tmp t::e,c,z,h=>by
  simp only[retK]at h;split at h
  ·rename_i v m;obtain⟨x,j,g⟩:=f.tmps t v m;obtain⟨l,d,k,i,q⟩:=I8 f e _ z h;refine⟨v::l,x::d,k,by simp only[VRs];exact⟨x,d,rfl,g,i⟩,?_⟩;have hx:a.tmps.getD t undef=x:=by rw[um,j];rfl
   simp only[AN,TU,ay,aH,aE,q,hx]
  ·cases h
 | .cell t E::e,c,z,h=>by
  simp only[retK]at h;split at h
  ·rename_i b o m;obtain⟨x,j,g⟩:=f.tmps t _ m;split at h
   ·rename_i blk B;obtain⟨v,X,r,D,C,y,A⟩:=KE f.mem B h;obtain⟨l,d,k,i,q⟩:=I8 f e _ z D;refine⟨v::l,X::d,k,by simp only[VRs];exact⟨X,d,rfl,A,i⟩,?_⟩;simp only[VR]at g;obtain⟨F,u,rfl⟩:=g;rw[C]at u;cases u;have hx:a.tmps.getD t undef=.pointer (some ⟨r.r,o,none⟩):=by rw[um,j];rfl
    have p:(loadVar E ⟨r.r,o,none⟩).run P w=.ok X w:=by
     simpa only[Instr.loadAt,Instr.sureAddr,ay,aH,aE]using y
    simp only[AN,TU,ay,aE,q,hx,asAddr,aH,p]
   ·cases h
  ·cases h
def Ul{ι:Inj}{l:List V}{a:List Value}(h:VRs ι l a):VR ι (Pl l) (if h:a.toArray.size=1 then a.toArray[0]else .tuple a.toArray):=by
 have c:=h.length;unfold Pl;split
 ·rename_i v;simp only[VRs]at h;obtain⟨y,e,rfl,b,rfl⟩:=h;simpa using b
 ·rename_i d;have:¬a.toArray.size=1:=by
   intro b;simp only[A8]at b;rw[c]at b
   match l,b with
   | [v],_=>exact d v rfl
  rw[dif_neg this];simp only[VR];exact⟨_,rfl,by simpa using h⟩
def Cf{α:Type}{fn:Func}{n:Nat}{ι0 ι:Inj}{w0:Base}{s:St}{a:Act}{w:World}(b:Inv n ι0 w0 ι s a w){c:V->Option α}{z:α}
  (h:retK P fn.results.toList s (λl=>c (Pl l))=some z):∃v x,c v=some z/\VR ι v x/\(results fn a.tmps).run P w=.ok x w:=by
 obtain⟨l,g,d,f,e⟩:=I8 b _ _ _ h;refine⟨_,_,d,Ul f,?_⟩;rw[Df,VG];simp only[ay,Sem.run_map,e,aE,aH]
def D2{α:Type}(P:Program)(f:Nat)(args:List V)(H0:List (Nat×Blk))(nb0 ro:Nat)(K:Bool->V->St->Option α)(z:α):Prop:=
 ∀(ι0:Inj) (w:World) (a:Array Value),WR ι0 H0 nb0 w->(∀b q,ι0 b=some (some q)->q.fz=true->b<ro)->GL (roI ι0 ro) w->VRs ι0 args a.toList->
  Calls P f a w λe w'=>∃(pan:Bool) (v:V) (s:St) (ι:Inj),K pan v s=some z/\(∀b q,ι0 b=some q->ι b=some q\/s.rb<=b)/\(∀b q,ι b=some (some q)->(∃c,ι0 b=some (some c)/\c.r=q.r)\/w.heap.size<=q.r)/\
   WR ι s.H s.nb w'/\(∀b q,ι b=some (some q)->q.fz=true->b<s.ro)/\Fr (roI ι0 s.ro) w w'/\RetR ι { val:=v,pan:=pan } e
def NQ{α:Type}{E:List Ent}(G:∀x∈E,gV P x){L:List Sub}{f:Nat}{fn:Func}{c:Code}{ac:AC}(D:P.funcs[f]?=some fn)(F:fn.body=some c)(hc:ac.code=c)
  (J:ln P fn.ntmps L ac) {args:List V} {H0:List (Nat×Blk)} {nb0 ro rb:Nat} {K:Bool->V->St->Option α} {z:α} (A:Nat.ble args.length fn.ntmps=true)
  (h:run P E L fn.ntmps ac ⟨vp args 0,H0,nb0,nb0,ro,rb⟩ (finK P fn.results.toList K)=some z) (ι0:Inj) (w:World) (d:Array Value) (C:WR ι0 H0 nb0 w) (p:∀b q,ι0 b=some (some q)->q.fz=true->b<ro) (m:GL (roI ι0 ro) w) (hx:VRs ι0 args d.toList):
  Calls P f d w λe w'=>∃(pan:Bool) (v:V) (s:St) (ι:Inj),K pan v s=some z/\(∀b q,ι0 b=some q->ι b=some q\/s.rb<=b)/\(∀b q,ι b=some (some q)->(∃k,ι0 b=some (some k)/\k.r=q.r)\/w.heap.size<=q.r)/\
   WR ι s.H s.nb w'/\(∀b q,ι b=some (some q)->q.fz=true->b<s.ro)/\Fr (roI ι0 s.ro) w w'/\RetR ι { val:=v,pan:=pan } e:=by
 have B:d.size=args.length:=by simpa using hx.length
 have A:=aR A;refine calls_of_wp D F ?_;rw[<-hc];have N:Inv fn.ntmps ι0 ⟨w,[]⟩ ι0 ⟨vp args 0,H0,nb0,nb0,ro,rb⟩ { tmps:=d++Array.replicate (fn.ntmps - d.size) undef,defers:=[] } w:=by
  refine⟨by simp;omega,rfl,λt v j=>?_,C,λ_ _ h=>.inl h,λ_ q h=>.inl ⟨q,h,rfl⟩,Fr.refl _ _,λb r h=>C.low b r h,p,m⟩;rw[uT,ae (lc _)]at j;simp only[uo]at j;cases n:args[t]? with
  | none=>simp[n]at j
  | some u=>
   simp only[n,fQ,aw]at j;subst j;obtain⟨x,i,a⟩:=hx.get n;have h1':d[t]?=some x:=by simpa using i
   have o:t<d.size:=by
    rcases aN t d.size with y | y
    ·exact y
    ·rw[ym y]at h1';cases h1'
   exact⟨x,by rw[Yg o];exact h1',a⟩
 refine wh ?_ (rF G ac _ _ z J h ι0 ⟨w,[]⟩ ι0 _ w N);rintro e Q w' ⟨ex,s',l,i,a,g⟩;have fin:finK P fn.results.toList K .ret s'=some z->∃v,(results fn Q.tmps).run P w'=.ok v w'/\∃(pan:Bool) (u:V) (s:St) (ι:Inj),K pan u s=some z/\(∀b q,ι0 b=some q->ι b=some q\/s.rb<=b)/\(∀b q,ι b=some (some q)->(∃k,ι0 b=some (some k)/\k.r=q.r)\/w.heap.size<=q.r)/\
   WR ι s.H s.nb w'/\(∀b q,ι b=some (some q)->q.fz=true->b<s.ro)/\Fr (roI ι0 s.ro) w w'/\RetR ι { val:=u,pan:=pan } (.returned v):=by
  intro g;simp only[finK]at g;obtain⟨v,x,M,I,O⟩:=Cf (fn:=fn) (c:=λv=>K false v s') a g;exact⟨x,O,false,v,s',l,M,a.ext,a.new,a.mem,a.fz,a.fr,rfl,I⟩
 cases ex with
 | normal=>
  simp only[ExR]at i;subst i;exact⟨a.defers,fin g⟩
 | ret=>
  simp only[ExR]at i;subst i;exact⟨a.defers,fin g⟩
 | exit id=>simp[finK]at g
 | pan v=>
  obtain⟨x,rfl,hx⟩:=i;exact⟨a.defers,true,v,s',l,g,a.ext,a.new,a.mem,a.fz,a.fr,rfl,x,rfl,hx⟩
mutual
def V.flat:V->Bool
 | .b _ | .i _ _ | .s _ | .pn | .sn | .nf | .ni | .ai _ _ _ | .unk=>true
 | .p _ _ | .sl _ _ _ _ | .pr _ _ _ _ | .ws _ | .rs _ _ _ _ _ | .mp _=>false
 | .fn _ l | .ag l | .tp l=>V.flats l
 | .it _ v=>V.flat v
def V.flats:List V->Bool
 | []=>true
 | v::l=>V.flat v&&V.flats l
end
mutual
def VR.flat{ι J:Inj}:∀(v:V) (x:Value),V.flat v=true->VR ι v x->VR J v x
 | .b _,_,_,hx | .i _ _,_,_,hx | .s _,_,_,hx | .pn,_,_,hx | .sn,_,_,hx | .nf,_,_,hx | .ni,_,_,hx | .ai _ _ _,_,_,hx | .unk,_,_,hx=>by simpa only[VR]using hx
 | .p b o,x,C,hx=>by simp[V.flat]at C
 | .mp b,x,C,hx=>by simp[V.flat]at C
 | .pr z b j o,x,C,hx=>by simp[V.flat]at C
 | .ws b,x,C,hx=>by simp[V.flat]at C
 | .rs z b j n _,x,C,hx=>by simp[V.flat]at C
 | .sl b o len cap,x,C,hx=>by simp[V.flat]at C
 | .fn f cap,x,C,hx=>by
  simp only[V.flat]at C;simp only[VR]at hx ⊢;obtain⟨G,E,F⟩:=hx;exact⟨G,E,VRs.flat _ _ C F⟩
 | .it t v,x,C,hx=>by
  simp only[V.flat]at C;simp only[VR]at hx ⊢;obtain⟨y,E,F⟩:=hx;exact⟨y,E,VR.flat _ _ C F⟩
 | .ag l,x,C,hx=>by
  simp only[V.flat]at C;simp only[VR]at hx ⊢;obtain⟨G,E,F⟩:=hx;exact⟨G,E,VRs.flat _ _ C F⟩
 | .tp l,x,C,hx=>by
  simp only[V.flat]at C;simp only[VR]at hx ⊢;obtain⟨G,E,F⟩:=hx;exact⟨G,E,VRs.flat _ _ C F⟩
def VRs.flat{ι E:Inj}:∀(l:List V) (F:List Value),V.flats l=true->VRs ι l F->VRs E l F
 | [],_,_,hx=>by simpa[VRs]using hx
 | v::l,F,C,hx=>by
  simp only[V.flats,aD]at C;simp only[VRs]at hx ⊢;obtain⟨y,O,G,Q,J⟩:=hx;exact⟨y,O,G,VR.flat _ _ C.1 Q,VRs.flat _ _ C.2 J⟩
end
def iI:Inj:=λ_=>none
def oP(P:Program)(f:Nat)(args:List V)(v:V):Prop:=
 ∀(w:World) (a:Array Value),GL iI w->VRs iI args a.toList->Calls P f a w λe w'=>∃x,e=.returned x/\VR iI v x/\Fr iI w w'
def Po{ro:Nat}{w w':World}(h:Fr (roI iI ro) w w'):Fr iI w w':=by
 have:roI iI ro=iI:=by
  funext b;unfold roI iI;cases Nat.blt b ro<;>rfl
 rwa[this]at h
def WR.nothing(w:World):WR iI [] 0 w:=⟨λ_ _ _ _ h=>(by cases h),λ_ _ h=>(by cases h),λ_ _ h=>(by cases h),λ_ _ h=>by cases h⟩
def oP.call{f:Nat}{args:List V}{v:V}(h:oP P f args v)(U:V.flats args=true)(H:List (Nat×Blk))(fr:Nat):JK P f args H fr { val:=v }:=by
 intro ι nb w Z E X _ _ hx;refine(h w Z (X.mono λb q h=>by cases h) (VRs.flat _ _ U hx)).mono λe w' ⟨x,F,J,C⟩=>?_;subst F;have Q:=C.size;refine⟨ι,λ_ _ _=>rfl,λb q F=>by simp[isIn]at F,λb q F J=>by simp at J;omega,λ_ _ h _=>h,?_,?_,rfl,VR.mono (λ_ _ h=>by cases h) _ _ J⟩
 ·simp only[eo,wK];refine⟨E.inj,λb r G=>?_,λb r G=>?_,λb blk W hd=>?_⟩
  ·have:=E.low b r G;omega
  ·have:=E.dom b r G;omega
  ·exact(E.blk b blk W hd).map rfl (λq Y=>C.blk q.r (E.dom b q Y) (λ_ _ h=>by cases h)) (λ_ _ x=>x) (λ_ x=>x)
 ·refine⟨C.os,C.tape,C.output,C.size,λk O _=>C.blk k O (λ_ _ h=>by cases h)⟩
end Go.Abs
