
import Derived.Test.YtadejcglcffgbaaGreatDoorAbsCut
import Derived.LoopN
import Derived.Scope
set_option linter.unusedSimpArgs false
set_option linter.unusedVariables false
set_option linter.defProp false
namespace Go.Abs
variable {P:Program}
def wY{α:Type}{E:List Ent}(g:∀x∈E,fC P x){n:Nat}{ι0:Inj}{w0:Base}{ops:List Oper}{k:Ex->St->Option α}{z:α}:
  ∀(l:List Oper) (s:St) (ι:Inj) (a:Act) (w:World),Inv n ι0 w0 ι s a w->Db P E n ops l s k=some z->
   wpList P ops.toArray (Post n ι0 w0 λex s'=>k ex s'=some z) l a w
 | [],s,ι,a,w,j,h=>⟨.normal,s,ι,rfl,j,h⟩
 | o::l,s,ι,a,w,j,h=>by
  simp only[Db]at h;obtain⟨f,s',h,e,p,_⟩:=O8 j h;unfold wpList;cases f
  ·simp only at h;rw[p];simp only[bQ,aF];split at h
   ·rename_i r;exact wY g l _ ι _ w (e.skip r) h
   ·cases h
  ·simp only at h;rw[p];simp only[aN];exact .inl (B5 g e (λb q=>e.fresh b q) (aU _) h (λs' d m w' i c=>wY g l s' d m w' c i)
    (λv s' d x m w' i t c=>⟨.pan v,s',d,⟨x,rfl,t⟩,c,i⟩))
def pV{α:Type}{E:List Ent}(p:∀x∈E,fC P x){L:List Sub}{n:Nat}:∀(c:AC) (s:St) (k:Ex->St->Option α) (z:α),jW P n L c->run P E L n c s k=some z->
  SemC P n c.code s λex s'=>k ex s'=some z
 | .skip,s,k,z,_,h=>λι0 w0 ι a w g=>wp_skip ⟨.normal,s,ι,rfl,g,h⟩
 | .ret,s,k,z,_,h=>λι0 w0 ι a w g=>wp_ret ⟨.ret,s,ι,rfl,g,h⟩
 | .exit id,s,k,z,_,h=>λι0 w0 ι a w g=>wp_exit ⟨.exit id,s,ι,rfl,g,h⟩
 | .seq x y,s,k,z,hs,h=>by
  intro ι0 w0 ι a w g;simp only[jW]at hs;simp only[run]at h;refine wp_seq (wp_mono (pV p x s _ z hs.1 h ι0 w0 ι a w g) ?_);rintro e r w' ⟨ex,s',d,f,o,j⟩;cases ex with
  | normal=>simp only[ExR]at f;subst f;exact pV p y s' k z hs.2 j ι0 w0 d r w' o
  | exit id=>simp only[ExR]at f;subst f;exact⟨.exit id,s',d,rfl,o,j⟩
  | ret=>simp only[ExR]at f;subst f;exact⟨.ret,s',d,rfl,o,j⟩
  | pan v=>obtain⟨x,rfl,hx⟩:=f;exact⟨.pan v,s',d,⟨x,rfl,hx⟩,o,j⟩
 | .cond c x y,s,k,z,hs,h=>by
  intro ι0 w0 ι a w g;simp only[jW]at hs;simp only[run]at h;split at h
  ·rename_i b q;have t:=bz g.tmps q;simp only[VR]at t;cases b
   ·exact wp_cond_false t (pV p y s k z hs.2 h ι0 w0 ι a w g)
   ·exact wp_cond_true t (pV p x s k z hs.1 h ι0 w0 ι a w g)
  ·cases h
 | .block id x,s,k,z,hs,h=>by
  intro ι0 w0 ι a w g;simp only[jW]at hs;simp only[run]at h;refine wp_block (wp_mono (pV p x s _ z hs h ι0 w0 ι a w g) ?_);rintro e r w' ⟨ex,s',d,f,o,j⟩;cases ex with
  | normal=>simp only[ExR]at f;subst f;exact⟨.normal,s',d,rfl,o,j⟩
  | exit i=>
   simp only[ExR]at f;subst f;simp only[Exit.inBlock];cases q:Nat.beq i id with
   | true=>
    simp only[q]at j;rw[ae (bB q)];exact⟨.normal,s',d,rfl,o,j⟩
   | false=>
    simp only[q]at j;rw[ab (by rintro rfl;simp at q)];exact⟨.exit i,s',d,rfl,o,j⟩
  | ret=>simp only[ExR]at f;subst f;exact⟨.ret,s',d,rfl,o,j⟩
  | pan v=>obtain⟨x,rfl,hx⟩:=f;exact⟨.pan v,s',d,⟨x,rfl,hx⟩,o,j⟩
 | .reg id ops,s,k,z,_,h=>λι0 w0 ι a w g=>wp_region_lit (wY p ops s ι a w g h)
 | .draw id ops,s,k,z,_,h=>RE p h id
 | .sub m c,s,k,z,hs,h=>by
  simp only[jW]at hs;simp only[run]at h;exact hs α s k z h
 | .loop c,s,k,z,hs,h=>by
  simp only[jW]at hs;simp only[run]at h;intro ι0 w0 ι a w g;refine wp_loop_rounds 12 ?_;generalize 12=m at h
  induction m generalizing s ι a w with
  | zero=>simp[Qz]at h
  | succ m ih=>
   rw[rounds_succ];simp only[Qz]at h;refine uJ ?_ (pV p c s _ z hs h ι0 w0 ι a w g);rintro e r w' ⟨ex,s',d,f,o,j⟩;cases ex with
   | normal=>simp only[ExR]at f;subst f;exact ih s' d r w' (by assumption) (by assumption)
   | exit id=>simp only[ExR]at f;subst f;exact⟨.exit id,s',d,rfl,o,j⟩
   | ret=>simp only[ExR]at f;subst f;exact⟨.ret,s',d,rfl,o,j⟩
   | pan v=>obtain⟨x,rfl,hx⟩:=f;exact⟨.pan v,s',d,⟨x,rfl,hx⟩,o,j⟩
 | .scope c,s,k,z,hs,h=>by
  simp only[jW]at hs;simp only[run]at h;intro ι0 w0 ι a w g;refine wp_scope_straight (uJ ?_ (pV p c s _ z hs h ι0 w0 ι a w g));rintro e r w' ⟨ex,s',d,f,o,j⟩;cases ex with
  | normal=>simp only[ExR]at f;subst f;exact⟨.normal,s',d,rfl,o,j⟩
  | exit id=>simp only[ExR]at f;subst f;exact⟨.exit id,s',d,rfl,o,j⟩
  | ret=>simp only[ExR]at f;subst f;exact⟨.ret,s',d,rfl,o,j⟩
  | pan v=>obtain⟨x,rfl,hx⟩:=f;exact⟨.pan v,s',d,⟨x,rfl,hx⟩,o,j⟩
 | .label l,s,k,z,_,h=>λι0 w0 ι a w g=>wp_label ⟨.normal,s,ι,rfl,g,h⟩
 | .bad c,s,k,z,_,h=>by simp[run]at h
def tL:List V->Nat->List (Nat×Option V)
 | [],_=>[]
 | v::l,j=>(j,some v)::tL l (j+1)
def retK{α:Type}(P:Program):List ResultVar->St->(List V->Option α)->Option α
 | [],_,c=>c []
 | .tmp t::r,s,c=>match look s.T t with
  | some (some v)=>retK P r s λl=>c (v::l)
  | _=>none
 | .cell t a::r,s,c=>match look s.T t with
  | some (some (.p b o))=>match look s.H b with
   | some blk=>zb P a blk o λv=>retK P r s λl=>c (v::l)
   | none=>none
  | _=>none
def Ny:List V->V
 | [v]=>v
 | l=>.tp l
def finK{α:Type}(P:Program)(a:List ResultVar)(K:Bool->V->St->Option α):Ex->St->Option α
 | .normal,s=>retK P a s λl=>K false (Ny l) s
 | .ret,s=>retK P a s λl=>K false (Ny l) s
 | .pan v,s=>K true v s
 | .exit _,_=>none
def rU:∀(l:List V) (j t:Nat),look (tL l j) t=if j<=t then(l[t - j]?).map some else none
 | [],j,t=>by simp[tL,look]
 | v::l,j,t=>by
  simp only[tL,aS,rU l (j+1) t];by_cases h:j=t
  ·subst h;simp
  ·simp only[h,aF];by_cases a:j<=t
   ·rw[ae (by omega),ae a,show t - j=(t - (j+1))+1 by omega];rfl
   ·rw[ab (by omega),ab a]
def RD(b:Array Value):ResultVar->Sem Value
 | .tmp t=>pure (b.getD t undef)
 | .cell a t=>do loadVar t (<-asAddr (b.getD a undef))
def zM(fn:Func)(b:Array Value):results fn b=(do
  let a <-fn.results.mapM (RD b)
  pure (if h:a.size=1 then a[0]else .tuple a)):=by
 unfold results;congr 2
def FH{α:Type}{n:Nat}{ι0 ι:Inj}{w0:Base}{s:St}{a:Act}{w:World}(f:Inv n ι0 w0 ι s a w):∀(e:List ResultVar) (c:List V->Option α) (z:α),retK P e s c=some z->
  ∃l d,c l=some z/\VRs ι l d/\(e.mapM (RD a.tmps)).run P w=.ok d w
 | [],c,z,h=>⟨[],[],h,by simp[VRs],rfl⟩
 | .tmp t::e,c,z,h=>by
  simp only[retK]at h;split at h
  ·rename_i v k;obtain⟨x,j,g⟩:=f.tmps t v k;obtain⟨l,d,i,q,m⟩:=FH f e _ z h;refine⟨v::l,x::d,i,by simp only[VRs];exact⟨x,d,rfl,g,q⟩,?_⟩;have hx:a.tmps.getD t undef=x:=by rw[rK,j];rfl
   simp only[xK,RD,az,aD,aA,m,hx]
  ·cases h
 | .cell t E::e,c,z,h=>by
  simp only[retK]at h;split at h
  ·rename_i b o k;obtain⟨x,j,g⟩:=f.tmps t _ k;split at h
   ·rename_i blk y;obtain⟨v,X,r,D,A,B,C⟩:=Jp f.mem y h;obtain⟨l,d,i,q,m⟩:=FH f e _ z D;refine⟨v::l,X::d,i,by simp only[VRs];exact⟨X,d,rfl,C,q⟩,?_⟩;simp only[VR]at g;obtain⟨F,u,rfl⟩:=g;rw[A]at u;cases u;have hx:a.tmps.getD t undef=.pointer (some ⟨r.r,o,none⟩):=by rw[rK,j];rfl
    have p:(loadVar E ⟨r.r,o,none⟩).run P w=.ok X w:=by
     simpa only[Instr.loadAt,Instr.sureAddr,az,aD,aA]using B
    simp only[xK,RD,az,aA,m,hx,asAddr,aD,p]
   ·cases h
  ·cases h
def Qw{ι:Inj}{l:List V}{a:List Value}(h:VRs ι l a):VR ι (Ny l) (if h:a.toArray.size=1 then a.toArray[0]else .tuple a.toArray):=by
 have d:=h.length;unfold Ny;split
 ·rename_i v;simp only[VRs]at h;obtain⟨y,e,rfl,b,rfl⟩:=h;simpa using b
 ·rename_i c;have:¬a.toArray.size=1:=by
   intro b;simp only[wU]at b;rw[d]at b
   match l,b with
   | [v],_=>exact c v rfl
  rw[dif_neg this];simp only[VR];exact⟨_,rfl,by simpa using h⟩
def zX{α:Type}{fn:Func}{n:Nat}{ι0 ι:Inj}{w0:Base}{s:St}{a:Act}{w:World}(e:Inv n ι0 w0 ι s a w){c:V->Option α}{z:α}
  (h:retK P fn.results.toList s (λl=>c (Ny l))=some z):∃v x,c v=some z/\VR ι v x/\(results fn a.tmps).run P w=.ok x w:=by
 obtain⟨l,g,d,b,f⟩:=FH e _ _ _ h;refine⟨_,_,d,Qw b,?_⟩;rw[zM,SY];simp only[az,Sem.run_map,f,aA,aD]
def BP{α:Type}(P:Program)(f:Nat)(args:List V)(H0:List (Nat×Blk))(nb0 ro:Nat)(K:Bool->V->St->Option α)(z:α):Prop:=
 ∀(ι0:Inj) (w:World) (c:Array Value),WR ι0 H0 nb0 w->(∀b q,ι0 b=some (some q)->q.fz=true->b<ro)->GL (roI ι0 ro) w->VRs ι0 args c.toList->
  Calls P f c w λe w'=>∃(pan:Bool) (v:V) (s:St) (ι:Inj),K pan v s=some z/\(∀b q,ι0 b=some q->ι b=some q\/s.rb<=b)/\(∀b q,ι b=some (some q)->(∃a,ι0 b=some (some a)/\a.r=q.r)\/w.heap.size<=q.r)/\
   WR ι s.H s.nb w'/\(∀b q,ι b=some (some q)->q.fz=true->b<s.ro)/\Fr (roI ι0 s.ro) w w'/\RetR ι { val:=v,pan:=pan } e
def Pe{α:Type}{E:List Ent}(Q:∀x∈E,fC P x){L:List Sub}{f:Nat}{fn:Func}{c:Code}{ac:AC}(F:P.funcs[f]?=some fn)(D:fn.body=some c)(hc:ac.code=c)
  (O:jW P fn.ntmps L ac) {args:List V} {H0:List (Nat×Blk)} {nb0 ro rb:Nat} {K:Bool->V->St->Option α} {z:α} (A:Nat.ble args.length fn.ntmps=true)
  (h:run P E L fn.ntmps ac ⟨tL args 0,H0,nb0,nb0,ro,rb⟩ (finK P fn.results.toList K)=some z) (ι0:Inj) (w:World) (d:Array Value) (C:WR ι0 H0 nb0 w) (p:∀b q,ι0 b=some (some q)->q.fz=true->b<ro) (o:GL (roI ι0 ro) w) (hx:VRs ι0 args d.toList):
  Calls P f d w λe w'=>∃(pan:Bool) (v:V) (s:St) (ι:Inj),K pan v s=some z/\(∀b q,ι0 b=some q->ι b=some q\/s.rb<=b)/\(∀b q,ι b=some (some q)->(∃j,ι0 b=some (some j)/\j.r=q.r)\/w.heap.size<=q.r)/\
   WR ι s.H s.nb w'/\(∀b q,ι b=some (some q)->q.fz=true->b<s.ro)/\Fr (roI ι0 s.ro) w w'/\RetR ι { val:=v,pan:=pan } e:=by
 have B:d.size=args.length:=by simpa using hx.length
 have A:=aI A;refine calls_of_wp F D ?_;rw[<-hc];have N:Inv fn.ntmps ι0 ⟨w,[]⟩ ι0 ⟨tL args 0,H0,nb0,nb0,ro,rb⟩ { tmps:=d++Array.replicate (fn.ntmps - d.size) undef,defers:=[] } w:=by
  refine⟨by simp;omega,rfl,λt v l=>?_,C,λ_ _ h=>.inl h,λ_ q h=>.inl ⟨q,h,rfl⟩,Fr.refl _ _,λb r h=>C.low b r h,p,o⟩;rw[rU,ae (jr _)]at l;simp only[tu]at l;cases y:args[t]? with
  | none=>simp[y]at l
  | some u=>
   simp only[y,fh,aq]at l;subst l;obtain⟨x,g,a⟩:=hx.get y;have h1':d[t]?=some x:=by simpa using g
   have n:t<d.size:=by
    rcases aJ t d.size with m | m
    ·exact m
    ·rw[vV m]at h1';cases h1'
   exact⟨x,by rw[Uo n];exact h1',a⟩
 refine uJ ?_ (pV Q ac _ _ z O h ι0 ⟨w,[]⟩ ι0 _ w N);rintro e I w' ⟨ex,s',k,g,a,i⟩;have fin:finK P fn.results.toList K .ret s'=some z->∃v,(results fn I.tmps).run P w'=.ok v w'/\∃(pan:Bool) (u:V) (s:St) (ι:Inj),K pan u s=some z/\(∀b q,ι0 b=some q->ι b=some q\/s.rb<=b)/\(∀b q,ι b=some (some q)->(∃j,ι0 b=some (some j)/\j.r=q.r)\/w.heap.size<=q.r)/\
   WR ι s.H s.nb w'/\(∀b q,ι b=some (some q)->q.fz=true->b<s.ro)/\Fr (roI ι0 s.ro) w w'/\RetR ι { val:=u,pan:=pan } (.returned v):=by
  intro i;simp only[finK]at i;obtain⟨v,x,M,J,G⟩:=zX (fn:=fn) (c:=λv=>K false v s') a i;exact⟨x,G,false,v,s',k,M,a.ext,a.new,a.mem,a.fz,a.fr,rfl,J⟩
 cases ex with
 | normal=>
  simp only[ExR]at g;subst g;exact⟨a.defers,fin i⟩
 | ret=>
  simp only[ExR]at g;subst g;exact⟨a.defers,fin i⟩
 | exit id=>simp[finK]at i
 | pan v=>
  obtain⟨x,rfl,hx⟩:=g;exact⟨a.defers,true,v,s',k,i,a.ext,a.new,a.mem,a.fz,a.fr,rfl,x,rfl,hx⟩
mutual
def V.flat:V->Bool
 | .b _ | .i _ _ | .s _ | .pn | .sn | .nf | .ni | .ai _ _ _ | .unk=>true
 | .p _ _ | .sl _ _ _ _ | .pr _ _ _ _ | .ws _ | .rs _ _ _ _ _ | .mp _=>false
 | .fn _ l | .ag l | .tp l=>V.flats l
 | .it _ v=>V.flat v
def V.flats:List V->Bool
 | []=>true
 | v::l=>V.flat v&&V.flats l
end
mutual
def VR.flat{ι J:Inj}:∀(v:V) (x:Value),V.flat v=true->VR ι v x->VR J v x
 | .b _,_,_,hx | .i _ _,_,_,hx | .s _,_,_,hx | .pn,_,_,hx | .sn,_,_,hx | .nf,_,_,hx | .ni,_,_,hx | .ai _ _ _,_,_,hx | .unk,_,_,hx=>by simpa only[VR]using hx
 | .p b o,x,C,hx=>by simp[V.flat]at C
 | .mp b,x,C,hx=>by simp[V.flat]at C
 | .pr z b j o,x,C,hx=>by simp[V.flat]at C
 | .ws b,x,C,hx=>by simp[V.flat]at C
 | .rs z b j n _,x,C,hx=>by simp[V.flat]at C
 | .sl b o len cap,x,C,hx=>by simp[V.flat]at C
 | .fn f cap,x,C,hx=>by
  simp only[V.flat]at C;simp only[VR]at hx ⊢;obtain⟨G,F,E⟩:=hx;exact⟨G,F,VRs.flat _ _ C E⟩
 | .it t v,x,C,hx=>by
  simp only[V.flat]at C;simp only[VR]at hx ⊢;obtain⟨y,F,E⟩:=hx;exact⟨y,F,VR.flat _ _ C E⟩
 | .ag l,x,C,hx=>by
  simp only[V.flat]at C;simp only[VR]at hx ⊢;obtain⟨G,F,E⟩:=hx;exact⟨G,F,VRs.flat _ _ C E⟩
 | .tp l,x,C,hx=>by
  simp only[V.flat]at C;simp only[VR]at hx ⊢;obtain⟨G,F,E⟩:=hx;exact⟨G,F,VRs.flat _ _ C E⟩
def VRs.flat{ι F:Inj}:∀(l:List V) (C:List Value),V.flats l=true->VRs ι l C->VRs F l C
 | [],_,_,hx=>by simpa[VRs]using hx
 | v::l,C,E,hx=>by
  simp only[V.flats,aB]at E;simp only[VRs]at hx ⊢;obtain⟨y,J,O,G,Q⟩:=hx;exact⟨y,J,O,VR.flat _ _ E.1 G,VRs.flat _ _ E.2 Q⟩
end
def gQ:Inj:=λ_=>none
def na(P:Program)(f:Nat)(args:List V)(v:V):Prop:=
 ∀(w:World) (a:Array Value),GL gQ w->VRs gQ args a.toList->Calls P f a w λe w'=>∃x,e=.returned x/\VR gQ v x/\Fr gQ w w'
def KH{ro:Nat}{w w':World}(h:Fr (roI gQ ro) w w'):Fr gQ w w':=by
 have:roI gQ ro=gQ:=by
  funext b;unfold roI gQ;cases Nat.blt b ro<;>rfl
 rwa[this]at h
def WR.nothing(w:World):WR gQ [] 0 w:=⟨λ_ _ _ _ h=>(by cases h),λ_ _ h=>(by cases h),λ_ _ h=>(by cases h),λ_ _ h=>(by cases h)⟩
def na.call{f:Nat}{args:List V}{v:V}(h:na P f args v)(X:V.flats args=true)(H:List (Nat×Blk))(fr:Nat):HW P f args H fr { val:=v }:=by
 intro ι nb w U E Z _ _ hx;refine(h w U (Z.mono λb q h=>by cases h) (VRs.flat _ _ X hx)).mono λe w' ⟨x,F,J,C⟩=>?_;subst F;have W:=C.size;refine⟨ι,λ_ _ _=>rfl,λb q F=>by simp[isIn]at F,λb q F J=>by simp at J;omega,λ_ _ h _=>h,?_,?_,rfl,VR.mono (λ_ _ h=>by cases h) _ _ J⟩
 ·simp only[dO,uf];refine⟨E.inj,λb r G=>?_,λb r G=>?_,λb blk hl O=>?_⟩
  ·have:=E.low b r G;omega
  ·have:=E.dom b r G;omega
  ·exact(E.blk b blk hl O).map rfl (λq Q=>C.blk q.r (E.dom b q Q) (λ_ _ h=>by cases h)) (λ_ _ x=>x) (λ_ x=>x)
 ·refine⟨C.os,C.tape,C.output,C.size,λk Y _=>C.blk k Y (λ_ _ h=>by cases h)⟩
end Go.Abs
