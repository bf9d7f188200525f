
import Derived.Test.YtadejcglcffgbacGreatDoorAbsCut
import Derived.LoopN
import Derived.Scope
set_option linter.unusedSimpArgs false
set_option linter.unusedVariables false
set_option linter.defProp false
namespace Go.Abs
variable {P:Program}
def rY{α:Type}{E:List Ent}(j:∀x∈E,cN P x){n:Nat}{ι0:Inj}{w0:Base}{ops:List Oper}{k:Ex->St->Option α}{z:α}:
  ∀(l:List Oper) (s:St) (ι:Inj) (a:Act) (w:World),Inv n ι0 w0 ι s a w->yc P E n ops l s k=some z->
   wpList P ops.toArray (Post n ι0 w0 λex f=>k ex f=some z) l a w
 | [],s,ι,a,w,m,h=>⟨.normal,s,ι,rfl,m,h⟩
 | o::l,s,ι,a,w,m,h=>by
  simp only[yc]at h;obtain⟨g,f,h,e,q,_⟩:=FL m h;unfold wpList;cases g
  ·simp only at h;rw[q];simp only[cb,aD];split at h
   ·rename_i u;exact rY j l _ ι _ w (e.skip u) h
   ·cases h
  ·simp only at h;rw[q];simp only[be];exact .inl (vo j e (λb t=>e.fresh b t) (aI _) h (λf d p w' i c=>rY j l f d p w' c i)
    (λv f d x p w' i r c=>⟨.pan v,f,d,⟨x,rfl,r⟩,c,i⟩))
def lc{α:Type}{E:List Ent}(p:∀x∈E,cN P x){L:List Sub}{n:Nat}:∀(c:AC) (s:St) (k:Ex->St->Option α) (z:α),gi P n L c->run P E L n c s k=some z->
  SemC P n c.code s λex f=>k ex f=some z
 | .skip,s,k,z,_,h=>λι0 w0 ι a w g=>wp_skip ⟨.normal,s,ι,rfl,g,h⟩
 | .ret,s,k,z,_,h=>λι0 w0 ι a w g=>wp_ret ⟨.ret,s,ι,rfl,g,h⟩
 | .exit id,s,k,z,_,h=>λι0 w0 ι a w g=>wp_exit ⟨.exit id,s,ι,rfl,g,h⟩
 | .seq x y,s,k,z,o,h=>by
  intro ι0 w0 ι a w g;simp only[gi]at o;simp only[run]at h;refine wp_seq (wp_mono (lc p x s _ z o.1 h ι0 w0 ι a w g) ?_);rintro e t w' ⟨ex,f,d,h1,h2,j⟩;cases ex with
  | normal=>simp only[ExR]at h1;subst h1;exact lc p y f k z o.2 j ι0 w0 d t w' h2
  | exit id=>simp only[ExR]at h1;subst h1;exact⟨.exit id,f,d,rfl,h2,j⟩
  | ret=>simp only[ExR]at h1;subst h1;exact⟨.ret,f,d,rfl,h2,j⟩
  | pan v=>obtain⟨x,rfl,q⟩:=h1;exact⟨.pan v,f,d,⟨x,rfl,q⟩,h2,j⟩
 | .cond c x y,s,k,z,o,h=>by
  intro ι0 w0 ι a w g;simp only[gi]at o;simp only[run]at h;split at h
  ·rename_i b r;have u:=aP g.tmps r;simp only[VR]at u;cases b
   ·exact wp_cond_false u (lc p y s k z o.2 h ι0 w0 ι a w g)
   ·exact wp_cond_true u (lc p x s k z o.1 h ι0 w0 ι a w g)
  ·cases h
 | .block id x,s,k,z,o,h=>by
  intro ι0 w0 ι a w g;simp only[gi]at o;simp only[run]at h;refine wp_block (wp_mono (lc p x s _ z o h ι0 w0 ι a w g) ?_);rintro e t w' ⟨ex,f,d,h1,h2,j⟩;cases ex with
  | normal=>simp only[ExR]at h1;subst h1;exact⟨.normal,f,d,rfl,h2,j⟩
  | exit i=>
   simp only[ExR]at h1;subst h1;simp only[Exit.inBlock];cases r:Nat.beq i id with
   | true=>
    simp only[r]at j;rw[ad (aS r)];exact⟨.normal,f,d,rfl,h2,j⟩
   | false=>
    simp only[r]at j;rw[ab (by rintro rfl;simp at r)];exact⟨.exit i,f,d,rfl,h2,j⟩
  | ret=>simp only[ExR]at h1;subst h1;exact⟨.ret,f,d,rfl,h2,j⟩
  | pan v=>obtain⟨x,rfl,q⟩:=h1;exact⟨.pan v,f,d,⟨x,rfl,q⟩,h2,j⟩
 | .reg id ops,s,k,z,_,h=>λι0 w0 ι a w g=>wp_region_lit (rY p ops s ι a w g h)
 | .draw id ops,s,k,z,_,h=>It p h id
 | .sub m c,s,k,z,o,h=>by
  simp only[gi]at o;simp only[run]at h;exact o α s k z h
 | .loop c,s,k,z,o,h=>by
  simp only[gi]at o;simp only[run]at h;intro ι0 w0 ι a w g;refine wp_loop_rounds 12 ?_;generalize 12=m at h
  induction m generalizing s ι a w with
  | zero=>simp[Ih]at h
  | succ m ih=>
   rw[rounds_succ];simp only[Ih]at h;refine pC ?_ (lc p c s _ z o h ι0 w0 ι a w g);rintro e t w' ⟨ex,f,d,h1,h2,j⟩;cases ex with
   | normal=>simp only[ExR]at h1;subst h1;exact ih f d t w' (by assumption) (by assumption)
   | exit id=>simp only[ExR]at h1;subst h1;exact⟨.exit id,f,d,rfl,h2,j⟩
   | ret=>simp only[ExR]at h1;subst h1;exact⟨.ret,f,d,rfl,h2,j⟩
   | pan v=>obtain⟨x,rfl,q⟩:=h1;exact⟨.pan v,f,d,⟨x,rfl,q⟩,h2,j⟩
 | .scope c,s,k,z,o,h=>by
  simp only[gi]at o;simp only[run]at h;intro ι0 w0 ι a w g;refine wp_scope_straight (pC ?_ (lc p c s _ z o h ι0 w0 ι a w g));rintro e t w' ⟨ex,f,d,h1,h2,j⟩;cases ex with
  | normal=>simp only[ExR]at h1;subst h1;exact⟨.normal,f,d,rfl,h2,j⟩
  | exit id=>simp only[ExR]at h1;subst h1;exact⟨.exit id,f,d,rfl,h2,j⟩
  | ret=>simp only[ExR]at h1;subst h1;exact⟨.ret,f,d,rfl,h2,j⟩
  | pan v=>obtain⟨x,rfl,q⟩:=h1;exact⟨.pan v,f,d,⟨x,rfl,q⟩,h2,j⟩
 | .label l,s,k,z,_,h=>λι0 w0 ι a w g=>wp_label ⟨.normal,s,ι,rfl,g,h⟩
 | .bad c,s,k,z,_,h=>by simp[run]at h
def nZ:List V->Nat->List (Nat×Option V)
 | [],_=>[]
 | v::l,j=>(j,some v)::nZ l (j+1)
def retK{α:Type}(P:Program):List ResultVar->St->(List V->Option α)->Option α
 | [],_,c=>c []
 | .tmp t::r,s,c=>match look s.T t with
  | some (some v)=>retK P r s λl=>c (v::l)
  | _=>none
 | .cell t a::r,s,c=>match look s.T t with
  | some (some (.p b o))=>match look s.H b with
   | some blk=>uj P a blk o λv=>retK P r s λl=>c (v::l)
   | none=>none
  | _=>none
def EU:List V->V
 | [v]=>v
 | l=>.tp l
def finK{α:Type}(P:Program)(a:List ResultVar)(K:Bool->V->St->Option α):Ex->St->Option α
 | .normal,s=>retK P a s λl=>K false (EU l) s
 | .ret,s=>retK P a s λl=>K false (EU l) s
 | .pan v,s=>K true v s
 | .exit _,_=>none
def nu:∀(l:List V) (j t:Nat),look (nZ l j) t=if j<=t then(l[t - j]?).map some else none
 | [],j,t=>by simp[nZ,look]
 | v::l,j,t=>by
  simp only[nZ,aG,nu l (j+1) t];by_cases h:j=t
  ·subst h;simp
  ·simp only[h,aD];by_cases h2:j<=t
   ·rw[ad (by omega),ad h2,show t - j=(t - (j+1))+1 by omega];rfl
   ·rw[ab (by omega),ab h2]
def HB(b:Array Value):ResultVar->Sem Value
 | .tmp t=>pure (b.getD t undef)
 | .cell a t=>do loadVar t (<-asAddr (b.getD a undef))
def uO(fn:Func)(b:Array Value):results fn b=(do
  let a <-fn.results.mapM (HB b)
  pure (if h:a.size=1 then a[0]else .tuple a)):=by
 unfold results;congr 2
def za{α:Type}{n:Nat}{ι0 ι:Inj}{w0:Base}{s:St}{a:Act}{w:World}(f:Inv n ι0 w0 ι s a w):∀(e:List ResultVar) (c:List V->Option α) (z:α),retK P e s c=some z->
  ∃l d,c l=some z/\VRs ι l d/\(e.mapM (HB a.tmps)).run P w=.ok d w
 | [],c,z,h=>⟨[],[],h,by simp[VRs],rfl⟩
 | .tmp t::e,c,z,h=>by
  simp only[retK]at h;split at h
  ·rename_i v i;obtain⟨x,h1,h2⟩:=f.tmps t v i;obtain⟨l,d,p,k,g⟩:=za f e _ z h;refine⟨v::l,x::d,p,by simp only[VRs];exact⟨x,d,rfl,h2,k⟩,?_⟩;have m:a.tmps.getD t undef=x:=by rw[mV,h1];rfl
   simp only[wh,HB,al,av,ar,g,m]
  ·cases h
 | .cell t B::e,c,z,h=>by
  simp only[retK]at h;split at h
  ·rename_i b o i;obtain⟨x,h1,h2⟩:=f.tmps t _ i;split at h
   ·rename_i blk C;obtain⟨v,X,r,u,A,D,y⟩:=Ax f.mem C h;obtain⟨l,d,p,k,g⟩:=za f e _ z u;refine⟨v::l,X::d,p,by simp only[VRs];exact⟨X,d,rfl,y,k⟩,?_⟩;simp only[VR]at h2;obtain⟨E,q,rfl⟩:=h2;rw[A]at q;cases q;have m:a.tmps.getD t undef=.pointer (some ⟨r.r,o,none⟩):=by rw[mV,h1];rfl
    have j:(loadVar B ⟨r.r,o,none⟩).run P w=.ok X w:=by
     simpa only[Instr.loadAt,Instr.sureAddr,al,av,ar]using D
    simp only[wh,HB,al,ar,g,m,asAddr,av,j]
   ·cases h
  ·cases h
def Hq{ι:Inj}{l:List V}{a:List Value}(h:VRs ι l a):VR ι (EU l) (if h:a.toArray.size=1 then a.toArray[0]else .tuple a.toArray):=by
 have b:=h.length;unfold EU;split
 ·rename_i v;simp only[VRs]at h;obtain⟨y,d,rfl,h1,rfl⟩:=h;simpa using h1
 ·rename_i c;have:¬a.toArray.size=1:=by
   intro h1;simp only[sG]at h1;rw[b]at h1
   match l,h1 with
   | [v],_=>exact c v rfl
  rw[dif_neg this];simp only[VR];exact⟨_,rfl,by simpa using h⟩
def vb{α:Type}{fn:Func}{n:Nat}{ι0 ι:Inj}{w0:Base}{s:St}{a:Act}{w:World}(b:Inv n ι0 w0 ι s a w){c:V->Option α}{z:α}
  (h:retK P fn.results.toList s (λl=>c (EU l))=some z):∃v x,c v=some z/\VR ι v x/\(results fn a.tmps).run P w=.ok x w:=by
 obtain⟨l,e,h1,h2,d⟩:=za b _ _ _ h;refine⟨_,_,h1,Hq h2,?_⟩;rw[uO,I4];simp only[al,Sem.run_map,d,ar,av]
def vZ{α:Type}(P:Program)(f:Nat)(args:List V)(H0:List (Nat×Blk))(nb0 ro:Nat)(K:Bool->V->St->Option α)(z:α):Prop:=
 ∀(ι0:Inj) (w:World) (c:Array Value),WR ι0 H0 nb0 w->(∀b q,ι0 b=some (some q)->q.fz=true->b<ro)->GL (roI ι0 ro) w->VRs ι0 args c.toList->
  Calls P f c w λe w'=>∃(pan:Bool) (v:V) (s:St) (ι:Inj),K pan v s=some z/\(∀b q,ι0 b=some q->ι b=some q\/s.rb<=b)/\(∀b q,ι b=some (some q)->(∃a,ι0 b=some (some a)/\a.r=q.r)\/w.heap.size<=q.r)/\
   WR ι s.H s.nb w'/\(∀b q,ι b=some (some q)->q.fz=true->b<s.ro)/\Fr (roI ι0 s.ro) w w'/\RetR ι { val:=v,pan:=pan } e
def EF{α:Type}{E:List Ent}(R:∀x∈E,cN P x){L:List Sub}{f:Nat}{fn:Func}{c:Code}{ac:AC}(Q:P.funcs[f]?=some fn)(F:fn.body=some c)(hc:ac.code=c)
  (I:gi P fn.ntmps L ac) {args:List V} {H0:List (Nat×Blk)} {nb0 ro rb:Nat} {K:Bool->V->St->Option α} {z:α} (B:Nat.ble args.length fn.ntmps=true)
  (h:run P E L fn.ntmps ac ⟨nZ args 0,H0,nb0,nb0,ro,rb⟩ (finK P fn.results.toList K)=some z) (ι0:Inj) (w:World) (a:Array Value) (D:WR ι0 H0 nb0 w) (y:∀b q,ι0 b=some (some q)->q.fz=true->b<ro) (n:GL (roI ι0 ro) w) (m:VRs ι0 args a.toList):
  Calls P f a w λe w'=>∃(pan:Bool) (v:V) (s:St) (ι:Inj),K pan v s=some z/\(∀b q,ι0 b=some q->ι b=some q\/s.rb<=b)/\(∀b q,ι b=some (some q)->(∃i,ι0 b=some (some i)/\i.r=q.r)\/w.heap.size<=q.r)/\
   WR ι s.H s.nb w'/\(∀b q,ι b=some (some q)->q.fz=true->b<s.ro)/\Fr (roI ι0 s.ro) w w'/\RetR ι { val:=v,pan:=pan } e:=by
 have C:a.size=args.length:=by simpa using m.length
 have B:=az B;refine calls_of_wp Q F ?_;rw[<-hc];have J:Inv fn.ntmps ι0 ⟨w,[]⟩ ι0 ⟨nZ args 0,H0,nb0,nb0,ro,rb⟩ { tmps:=a++Array.replicate (fn.ntmps - a.size) undef,defers:=[] } w:=by
  refine⟨by simp;omega,rfl,λt v g=>?_,D,λ_ _ h=>.inl h,λ_ q h=>.inl ⟨q,h,rfl⟩,Fr.refl _ _,λb r h=>D.low b r h,y,n⟩;rw[nu,ad (mT _)]at g;simp only[s9]at g;cases A:args[t]? with
  | none=>simp[A]at g
  | some u=>
   simp only[A,dB,af]at g;subst g;obtain⟨x,h1,h2⟩:=m.get A;have h1':a[t]?=some x:=by simpa using h1
   have o:t<a.size:=by
    rcases aA t a.size with p | p
    ·exact p
    ·rw[tj p]at h1';cases h1'
   exact⟨x,by rw[KP o];exact h1',h2⟩
 refine pC ?_ (lc R ac _ _ z I h ι0 ⟨w,[]⟩ ι0 _ w J);rintro e G w' ⟨ex,l,j,h1,h2,d⟩;have k:finK P fn.results.toList K .ret l=some z->∃v,(results fn G.tmps).run P w'=.ok v w'/\∃(pan:Bool) (u:V) (s:St) (ι:Inj),K pan u s=some z/\(∀b q,ι0 b=some q->ι b=some q\/s.rb<=b)/\(∀b q,ι b=some (some q)->(∃i,ι0 b=some (some i)/\i.r=q.r)\/w.heap.size<=q.r)/\
   WR ι s.H s.nb w'/\(∀b q,ι b=some (some q)->q.fz=true->b<s.ro)/\Fr (roI ι0 s.ro) w w'/\RetR ι { val:=u,pan:=pan } (.returned v):=by
  intro d;simp only[finK]at d;obtain⟨v,x,M,N,O⟩:=vb (fn:=fn) (c:=λv=>K false v l) h2 d;exact⟨x,O,false,v,l,j,M,h2.ext,h2.new,h2.mem,h2.fz,h2.fr,rfl,N⟩
 cases ex with
 | normal=>
  simp only[ExR]at h1;subst h1;exact⟨h2.defers,k d⟩
 | ret=>
  simp only[ExR]at h1;subst h1;exact⟨h2.defers,k d⟩
 | exit id=>simp[finK]at d
 | pan v=>
  obtain⟨x,rfl,m⟩:=h1;exact⟨h2.defers,true,v,l,j,d,h2.ext,h2.new,h2.mem,h2.fz,h2.fr,rfl,x,rfl,m⟩
mutual
def V.flat:V->Bool
 | .b _ | .i _ _ | .s _ | .pn | .sn | .nf | .ni | .ai _ _ _ | .unk=>true
 | .p _ _ | .sl _ _ _ _ | .pr _ _ _ _ | .ws _ | .rs _ _ _ _ _ | .mp _=>false
 | .fn _ l | .ag l | .tp l=>V.flats l
 | .it _ v=>V.flat v
def V.flats:List V->Bool
 | []=>true
 | v::l=>V.flat v&&V.flats l
end
mutual
def VR.flat{ι F:Inj}:∀(v:V) (x:Value),V.flat v=true->VR ι v x->VR F v x
 | .b _,_,_,A | .i _ _,_,_,A | .s _,_,_,A | .pn,_,_,A | .sn,_,_,A | .nf,_,_,A | .ni,_,_,A | .ai _ _ _,_,_,A | .unk,_,_,A=>by simpa only[VR]using A
 | .p b o,x,C,A=>by simp[V.flat]at C
 | .mp b,x,C,A=>by simp[V.flat]at C
 | .pr z b j o,x,C,A=>by simp[V.flat]at C
 | .ws b,x,C,A=>by simp[V.flat]at C
 | .rs z b j n _,x,C,A=>by simp[V.flat]at C
 | .sl b o len cap,x,C,A=>by simp[V.flat]at C
 | .fn f cap,x,C,A=>by
  simp only[V.flat]at C;simp only[VR]at A ⊢;obtain⟨E,h1,h2⟩:=A;exact⟨E,h1,VRs.flat _ _ C h2⟩
 | .it t v,x,C,A=>by
  simp only[V.flat]at C;simp only[VR]at A ⊢;obtain⟨y,h1,h2⟩:=A;exact⟨y,h1,VR.flat _ _ C h2⟩
 | .ag l,x,C,A=>by
  simp only[V.flat]at C;simp only[VR]at A ⊢;obtain⟨E,h1,h2⟩:=A;exact⟨E,h1,VRs.flat _ _ C h2⟩
 | .tp l,x,C,A=>by
  simp only[V.flat]at C;simp only[VR]at A ⊢;obtain⟨E,h1,h2⟩:=A;exact⟨E,h1,VRs.flat _ _ C h2⟩
def VRs.flat{ι C:Inj}:∀(l:List V) (F:List Value),V.flats l=true->VRs ι l F->VRs C l F
 | [],_,_,A=>by simpa[VRs]using A
 | v::l,F,E,A=>by
  simp only[V.flats,aw]at E;simp only[VRs]at A ⊢;obtain⟨y,G,h1,h2,J⟩:=A;exact⟨y,G,h1,VR.flat _ _ E.1 h2,VRs.flat _ _ E.2 J⟩
end
def dY:Inj:=λ_=>none
def il(P:Program)(f:Nat)(args:List V)(v:V):Prop:=
 ∀(w:World) (a:Array Value),GL dY w->VRs dY args a.toList->Calls P f a w λe w'=>∃x,e=.returned x/\VR dY v x/\Fr dY w w'
def Fv{ro:Nat}{w w':World}(h:Fr (roI dY ro) w w'):Fr dY w w':=by
 have:roI dY ro=dY:=by
  funext b;unfold roI dY;cases Nat.blt b ro<;>rfl
 rwa[this]at h
def WR.nothing(w:World):WR dY [] 0 w:=⟨λ_ _ _ _ h=>(by cases h),λ_ _ h=>(by cases h),λ_ _ h=>(by cases h),λ_ _ h=>(by cases h)⟩
def il.call{f:Nat}{args:List V}{v:V}(h:il P f args v)(O:V.flats args=true)(H:List (Nat×Blk))(fr:Nat):AM P f args H fr { val:=v }:=by
 intro ι nb w U C J _ _ K;refine(h w U (J.mono λb q h=>by cases h) (VRs.flat _ _ O K)).mono λe w' ⟨x,h1,h2,A⟩=>?_;subst h1;have F:=A.size;refine⟨ι,λ_ _ _=>rfl,λb q h1=>by simp[isIn]at h1,λb q h1 h2=>by simp at h2;omega,λ_ _ h _=>h,?_,?_,rfl,VR.mono (λ_ _ h=>by cases h) _ _ h2⟩
 ·simp only[gh,oV];refine⟨C.inj,λb r E=>?_,λb r E=>?_,λb blk W M=>?_⟩
  ·have:=C.low b r E;omega
  ·have:=C.dom b r E;omega
  ·exact(C.blk b blk W M).map rfl (λq Q=>A.blk q.r (C.dom b q Q) (λ_ _ h=>by cases h)) (λ_ _ x=>x) (λ_ x=>x)
 ·refine⟨A.os,A.tape,A.output,A.size,λk G _=>A.blk k G (λ_ _ h=>by cases h)⟩
end Go.Abs
