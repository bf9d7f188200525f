
import Derived.Test.YtibehcmomiplnaaGreatDoorAbsCut
import Derived.LoopN
import Derived.Scope
set_option linter.unusedSimpArgs false
set_option linter.unusedVariables false
set_option linter.defProp false
namespace Go.Abs
variable {P:Program}
def zg{α:Type}{E:List Ent}(j:∀x∈E,fQ P x){n:Nat}{ι0:Inj}{w0:Base}{ops:List Oper}{k:Ex->St->Option α}{z:α}:
  ∀(l:List Oper) (s:St) (ι:Inj) (a:Act) (w:World),Inv n ι0 w0 ι s a w->DC P E n ops l s k=some z->
   wpList P ops.toArray (Post n ι0 w0 λex s'=>k ex s'=some z) l a w
 | [],s,ι,a,w,g,h=>⟨.normal,s,ι,rfl,g,h⟩
 | o::l,s,ι,a,w,g,h=>by
  simp only[DC]at h;obtain⟨f,s',h,e,m,_⟩:=OV g h;unfold wpList;cases f
  ·simp only at h;rw[m];simp only[bU,aG];split at h
   ·rename_i t;exact zg j l _ ι _ w (e.skip t) h
   ·cases h
  ·simp only at h;rw[m];simp only[aQ];exact .inl (BL j e (λb q=>e.fresh b q) (bg _) h (λs' d p w' i c=>zg j l s' d p w' c i)
    (λv s' d x p w' i r c=>⟨.pan v,s',d,⟨x,rfl,r⟩,c,i⟩))
def pU{α:Type}{E:List Ent}(p:∀x∈E,fQ P x){L:List Sub}{n:Nat}:∀(c:AC) (s:St) (k:Ex->St->Option α) (z:α),kw P n L c->run P E L n c s k=some z->
  SemC P n c.code s λex s'=>k ex s'=some z
 | .skip,s,k,z,_,h=>λι0 w0 ι a w g=>wp_skip ⟨.normal,s,ι,rfl,g,h⟩
 | .ret,s,k,z,_,h=>λι0 w0 ι a w g=>wp_ret ⟨.ret,s,ι,rfl,g,h⟩
 | .exit id,s,k,z,_,h=>λι0 w0 ι a w g=>wp_exit ⟨.exit id,s,ι,rfl,g,h⟩
 | .seq x y,s,k,z,hs,h=>by
  intro ι0 w0 ι a w g;simp only[kw]at hs;simp only[run]at h;refine wp_seq (wp_mono (pU p x s _ z hs.1 h ι0 w0 ι a w g) ?_);rintro e r w' ⟨ex,s',d,f,o,j⟩;cases ex with
  | normal=>simp only[ExR]at f;subst f;exact pU p y s' k z hs.2 j ι0 w0 d r w' o
  | exit id=>simp only[ExR]at f;subst f;exact⟨.exit id,s',d,rfl,o,j⟩
  | ret=>simp only[ExR]at f;subst f;exact⟨.ret,s',d,rfl,o,j⟩
  | pan v=>obtain⟨x,rfl,hx⟩:=f;exact⟨.pan v,s',d,⟨x,rfl,hx⟩,o,j⟩
 | .cond c x y,s,k,z,hs,h=>by
  intro ι0 w0 ι a w g;simp only[kw]at hs;simp only[run]at h;split at h
  ·rename_i b q;have t:=bv g.tmps q;simp only[VR]at t;cases b
   ·exact wp_cond_false t (pU p y s k z hs.2 h ι0 w0 ι a w g)
   ·exact wp_cond_true t (pU p x s k z hs.1 h ι0 w0 ι a w g)
  ·cases h
 | .block id x,s,k,z,hs,h=>by
  intro ι0 w0 ι a w g;simp only[kw]at hs;simp only[run]at h;refine wp_block (wp_mono (pU p x s _ z hs h ι0 w0 ι a w g) ?_);rintro e r w' ⟨ex,s',d,f,o,j⟩;cases ex with
  | normal=>simp only[ExR]at f;subst f;exact⟨.normal,s',d,rfl,o,j⟩
  | exit i=>
   simp only[ExR]at f;subst f;simp only[Exit.inBlock];cases q:Nat.beq i id with
   | true=>
    simp only[q]at j;rw[af (bB q)];exact⟨.normal,s',d,rfl,o,j⟩
   | false=>
    simp only[q]at j;rw[ae (by rintro rfl;simp at q)];exact⟨.exit i,s',d,rfl,o,j⟩
  | ret=>simp only[ExR]at f;subst f;exact⟨.ret,s',d,rfl,o,j⟩
  | pan v=>obtain⟨x,rfl,hx⟩:=f;exact⟨.pan v,s',d,⟨x,rfl,hx⟩,o,j⟩
 | .reg id ops,s,k,z,_,h=>λι0 w0 ι a w g=>wp_region_lit (zg p ops s ι a w g h)
 | .draw id ops,s,k,z,_,h=>QX p h id
 | .sub m c,s,k,z,hs,h=>by
  simp only[kw]at hs;simp only[run]at h;exact hs α s k z h
 | .loop c,s,k,z,hs,h=>by
  simp only[kw]at hs;simp only[run]at h;intro ι0 w0 ι a w g;refine wp_loop_rounds 12 ?_;generalize 12=m at h
  induction m generalizing s ι a w with
  | zero=>simp[QN]at h
  | succ m ih=>
   rw[rounds_succ];simp only[QN]at h;refine uV ?_ (pU p c s _ z hs h ι0 w0 ι a w g);rintro e r w' ⟨ex,s',d,f,o,j⟩;cases ex with
   | normal=>simp only[ExR]at f;subst f;exact ih s' d r w' (by assumption) (by assumption)
   | exit id=>simp only[ExR]at f;subst f;exact⟨.exit id,s',d,rfl,o,j⟩
   | ret=>simp only[ExR]at f;subst f;exact⟨.ret,s',d,rfl,o,j⟩
   | pan v=>obtain⟨x,rfl,hx⟩:=f;exact⟨.pan v,s',d,⟨x,rfl,hx⟩,o,j⟩
 | .scope c,s,k,z,hs,h=>by
  simp only[kw]at hs;simp only[run]at h;intro ι0 w0 ι a w g;refine wp_scope_straight (uV ?_ (pU p c s _ z hs h ι0 w0 ι a w g));rintro e r w' ⟨ex,s',d,f,o,j⟩;cases ex with
  | normal=>simp only[ExR]at f;subst f;exact⟨.normal,s',d,rfl,o,j⟩
  | exit id=>simp only[ExR]at f;subst f;exact⟨.exit id,s',d,rfl,o,j⟩
  | ret=>simp only[ExR]at f;subst f;exact⟨.ret,s',d,rfl,o,j⟩
  | pan v=>obtain⟨x,rfl,hx⟩:=f;exact⟨.pan v,s',d,⟨x,rfl,hx⟩,o,j⟩
 | .label l,s,k,z,_,h=>λι0 w0 ι a w g=>wp_label ⟨.normal,s,ι,rfl,g,h⟩
 | .bad c,s,k,z,_,h=>by simp[run]at h
def tP:List V->Nat->List (Nat×Option V)
 | [],_=>[]
 | v::l,j=>(j,some v)::tP l (j+1)
def retK{α:Type}(P:Program):List ResultVar->St->(List V->Option α)->Option α
 | [],_,c=>c []
 | .tmp t::r,s,c=>match look s.T t with
  | some (some v)=>retK P r s λl=>c (v::l)
  | _=>none
 | .cell t a::r,s,c=>match look s.T t with
  | some (some (.p b o))=>match look s.H b with
   | some blk=>zC P a blk o λv=>retK P r s λl=>c (v::l)
   | none=>none
  | _=>none
def NP:List V->V
 | [v]=>v
 | l=>.tp l
def finK{α:Type}(P:Program)(a:List ResultVar)(K:Bool->V->St->Option α):Ex->St->Option α
 | .normal,s=>retK P a s λl=>K false (NP l) s
 | .ret,s=>retK P a s λl=>K false (NP l) s
 | .pan v,s=>K true v s
 | .exit _,_=>none
def sQ:∀(l:List V) (j t:Nat),look (tP l j) t=if j<=t then(l[t - j]?).map some else none
 | [],j,t=>by simp[tP,look]
 | v::l,j,t=>by
  simp only[tP,aV,sQ l (j+1) t];by_cases h:j=t
  ·subst h;simp
  ·simp only[h,aG];by_cases a:j<=t
   ·rw[af (by omega),af a,show t - j=(t - (j+1))+1 by omega];rfl
   ·rw[ae (by omega),ae a]
def RH(b:Array Value):ResultVar->Sem Value
 | .tmp t=>pure (b.getD t undef)
 | .cell a t=>do loadVar t (<-asAddr (b.getD a undef))
def Aq(fn:Func)(b:Array Value):results fn b=(do
  let a <-fn.results.mapM (RH b)
  pure (if h:a.size=1 then a[0]else .tuple a)):=by
 unfold results;congr 2
def F7{α:Type}{n:Nat}{ι0 ι:Inj}{w0:Base}{s:St}{a:Act}{w:World}(f:Inv n ι0 w0 ι s a w):∀(e:List ResultVar) (c:List V->Option α) (z:α),retK P e s c=some z->
  ∃l d,c l=some z/\VRs ι l d/\(e.mapM (RH a.tmps)).run P w=.ok d w
 | [],c,z,h=>⟨[],[],h,by simp[VRs],rfl⟩
 | .tmp t::e,c,z,h=>by
  simp only[retK]at h;split at h
  ·rename_i v j;obtain⟨x,i,g⟩:=f.tmps t v j;obtain⟨l,d,k,p,m⟩:=F7 f e _ z h;refine⟨v::l,x::d,k,by simp only[VRs];exact⟨x,d,rfl,g,p⟩,?_⟩;have hx:a.tmps.getD t undef=x:=by rw[rj,i];rfl
   simp only[zk,RH,ay,aE,aB,m,hx]
  ·cases h
 | .cell t A::e,c,z,h=>by
  simp only[retK]at h;split at h
  ·rename_i b o j;obtain⟨x,i,g⟩:=f.tmps t _ j;split at h
   ·rename_i blk y;obtain⟨v,X,r,D,E,B,C⟩:=IJ f.mem y h;obtain⟨l,d,k,p,m⟩:=F7 f e _ z D;refine⟨v::l,X::d,k,by simp only[VRs];exact⟨X,d,rfl,C,p⟩,?_⟩;simp only[VR]at g;obtain⟨F,u,rfl⟩:=g;rw[E]at u;cases u;have hx:a.tmps.getD t undef=.pointer (some ⟨r.r,o,none⟩):=by rw[rj,i];rfl
    have q:(loadVar A ⟨r.r,o,none⟩).run P w=.ok X w:=by
     simpa only[Instr.loadAt,Instr.sureAddr,ay,aE,aB]using B
    simp only[zk,RH,ay,aB,m,hx,asAddr,aE,q]
   ·cases h
  ·cases h
def RE{ι:Inj}{l:List V}{a:List Value}(h:VRs ι l a):VR ι (NP l) (if h:a.toArray.size=1 then a.toArray[0]else .tuple a.toArray):=by
 have d:=h.length;unfold NP;split
 ·rename_i v;simp only[VRs]at h;obtain⟨y,e,rfl,b,rfl⟩:=h;simpa using b
 ·rename_i c;have:¬a.toArray.size=1:=by
   intro b;simp only[zi]at b;rw[d]at b
   match l,b with
   | [v],_=>exact c v rfl
  rw[dif_neg this];simp only[VR];exact⟨_,rfl,by simpa using h⟩
def Ak{α:Type}{fn:Func}{n:Nat}{ι0 ι:Inj}{w0:Base}{s:St}{a:Act}{w:World}(b:Inv n ι0 w0 ι s a w){c:V->Option α}{z:α}
  (h:retK P fn.results.toList s (λl=>c (NP l))=some z):∃v x,c v=some z/\VR ι v x/\(results fn a.tmps).run P w=.ok x w:=by
 obtain⟨l,g,d,f,e⟩:=F7 b _ _ _ h;refine⟨_,_,d,RE f,?_⟩;rw[Aq,Tt];simp only[ay,Sem.run_map,e,aB,aE]
def Ba{α:Type}(P:Program)(f:Nat)(args:List V)(H0:List (Nat×Blk))(nb0 ro:Nat)(K:Bool->V->St->Option α)(z:α):Prop:=
 ∀(ι0:Inj) (w:World) (c:Array Value),WR ι0 H0 nb0 w->(∀b q,ι0 b=some (some q)->q.fz=true->b<ro)->GL (roI ι0 ro) w->VRs ι0 args c.toList->
  Calls P f c w λe w'=>∃(pan:Bool) (v:V) (s:St) (ι:Inj),K pan v s=some z/\(∀b q,ι0 b=some q->ι b=some q\/s.rb<=b)/\(∀b q,ι b=some (some q)->(∃a,ι0 b=some (some a)/\a.r=q.r)\/w.heap.size<=q.r)/\
   WR ι s.H s.nb w'/\(∀b q,ι b=some (some q)->q.fz=true->b<s.ro)/\Fr (roI ι0 s.ro) w w'/\RetR ι { val:=v,pan:=pan } e
def LF{α:Type}{E:List Ent}(M:∀x∈E,fQ P x){L:List Sub}{f:Nat}{fn:Func}{c:Code}{ac:AC}(J:P.funcs[f]?=some fn)(F:fn.body=some c)(hc:ac.code=c)
  (O:kw P fn.ntmps L ac) {args:List V} {H0:List (Nat×Blk)} {nb0 ro rb:Nat} {K:Bool->V->St->Option α} {z:α} (C:Nat.ble args.length fn.ntmps=true)
  (h:run P E L fn.ntmps ac ⟨tP args 0,H0,nb0,nb0,ro,rb⟩ (finK P fn.results.toList K)=some z) (ι0:Inj) (w:World) (d:Array Value) (B:WR ι0 H0 nb0 w) (n:∀b q,ι0 b=some (some q)->q.fz=true->b<ro) (p:GL (roI ι0 ro) w) (hx:VRs ι0 args d.toList):
  Calls P f d w λe w'=>∃(pan:Bool) (v:V) (s:St) (ι:Inj),K pan v s=some z/\(∀b q,ι0 b=some q->ι b=some q\/s.rb<=b)/\(∀b q,ι b=some (some q)->(∃j,ι0 b=some (some j)/\j.r=q.r)\/w.heap.size<=q.r)/\
   WR ι s.H s.nb w'/\(∀b q,ι b=some (some q)->q.fz=true->b<s.ro)/\Fr (roI ι0 s.ro) w w'/\RetR ι { val:=v,pan:=pan } e:=by
 have A:d.size=args.length:=by simpa using hx.length
 have C:=aM C;refine calls_of_wp J F ?_;rw[<-hc];have G:Inv fn.ntmps ι0 ⟨w,[]⟩ ι0 ⟨tP args 0,H0,nb0,nb0,ro,rb⟩ { tmps:=d++Array.replicate (fn.ntmps - d.size) undef,defers:=[] } w:=by
  refine⟨by simp;omega,rfl,λt v k=>?_,B,λ_ _ h=>.inl h,λ_ q h=>.inl ⟨q,h,rfl⟩,Fr.refl _ _,λb r h=>B.low b r h,n,p⟩;rw[sQ,af (iK _)]at k;simp only[tX]at k;cases y:args[t]? with
  | none=>simp[y]at k
  | some u=>
   simp only[y,fm,ar]at k;subst k;obtain⟨x,g,a⟩:=hx.get y;have h1':d[t]?=some x:=by simpa using g
   have m:t<d.size:=by
    rcases aN t d.size with o | o
    ·exact o
    ·rw[wo o]at h1';cases h1'
   exact⟨x,by rw[Vg m];exact h1',a⟩
 refine uV ?_ (pU M ac _ _ z O h ι0 ⟨w,[]⟩ ι0 _ w G);rintro e Q w' ⟨ex,s',l,g,a,i⟩;have fin:finK P fn.results.toList K .ret s'=some z->∃v,(results fn Q.tmps).run P w'=.ok v w'/\∃(pan:Bool) (u:V) (s:St) (ι:Inj),K pan u s=some z/\(∀b q,ι0 b=some q->ι b=some q\/s.rb<=b)/\(∀b q,ι b=some (some q)->(∃j,ι0 b=some (some j)/\j.r=q.r)\/w.heap.size<=q.r)/\
   WR ι s.H s.nb w'/\(∀b q,ι b=some (some q)->q.fz=true->b<s.ro)/\Fr (roI ι0 s.ro) w w'/\RetR ι { val:=u,pan:=pan } (.returned v):=by
  intro i;simp only[finK]at i;obtain⟨v,x,I,N,D⟩:=Ak (fn:=fn) (c:=λv=>K false v s') a i;exact⟨x,D,false,v,s',l,I,a.ext,a.new,a.mem,a.fz,a.fr,rfl,N⟩
 cases ex with
 | normal=>
  simp only[ExR]at g;subst g;exact⟨a.defers,fin i⟩
 | ret=>
  simp only[ExR]at g;subst g;exact⟨a.defers,fin i⟩
 | exit id=>simp[finK]at i
 | pan v=>
  obtain⟨x,rfl,hx⟩:=g;exact⟨a.defers,true,v,s',l,i,a.ext,a.new,a.mem,a.fz,a.fr,rfl,x,rfl,hx⟩
mutual
def V.flat:V->Bool
 | .b _ | .i _ _ | .s _ | .pn | .sn | .nf | .ni | .ai _ _ _ | .unk=>true
 | .p _ _ | .sl _ _ _ _ | .pr _ _ _ _ | .ws _ | .rs _ _ _ _ _ | .mp _=>false
 | .fn _ l | .ag l | .tp l=>V.flats l
 | .it _ v=>V.flat v
def V.flats:List V->Bool
 | []=>true
 | v::l=>V.flat v&&V.flats l
end
mutual
def VR.flat{ι J:Inj}:∀(v:V) (x:Value),V.flat v=true->VR ι v x->VR J v x
 | .b _,_,_,hx | .i _ _,_,_,hx | .s _,_,_,hx | .pn,_,_,hx | .sn,_,_,hx | .nf,_,_,hx | .ni,_,_,hx | .ai _ _ _,_,_,hx | .unk,_,_,hx=>by simpa only[VR]using hx
 | .p b o,x,C,hx=>by simp[V.flat]at C
 | .mp b,x,C,hx=>by simp[V.flat]at C
 | .pr z b j o,x,C,hx=>by simp[V.flat]at C
 | .ws b,x,C,hx=>by simp[V.flat]at C
 | .rs z b j n _,x,C,hx=>by simp[V.flat]at C
 | .sl b o len cap,x,C,hx=>by simp[V.flat]at C
 | .fn f cap,x,C,hx=>by
  simp only[V.flat]at C;simp only[VR]at hx ⊢;obtain⟨G,E,F⟩:=hx;exact⟨G,E,VRs.flat _ _ C F⟩
 | .it t v,x,C,hx=>by
  simp only[V.flat]at C;simp only[VR]at hx ⊢;obtain⟨y,E,F⟩:=hx;exact⟨y,E,VR.flat _ _ C F⟩
 | .ag l,x,C,hx=>by
  simp only[V.flat]at C;simp only[VR]at hx ⊢;obtain⟨G,E,F⟩:=hx;exact⟨G,E,VRs.flat _ _ C F⟩
 | .tp l,x,C,hx=>by
  simp only[V.flat]at C;simp only[VR]at hx ⊢;obtain⟨G,E,F⟩:=hx;exact⟨G,E,VRs.flat _ _ C F⟩
def VRs.flat{ι F:Inj}:∀(l:List V) (C:List Value),V.flats l=true->VRs ι l C->VRs F l C
 | [],_,_,hx=>by simpa[VRs]using hx
 | v::l,C,E,hx=>by
  simp only[V.flats,aA]at E;simp only[VRs]at hx ⊢;obtain⟨y,Q,G,O,J⟩:=hx;exact⟨y,Q,G,VR.flat _ _ E.1 O,VRs.flat _ _ E.2 J⟩
end
def gX:Inj:=λ_=>none
def nE(P:Program)(f:Nat)(args:List V)(v:V):Prop:=
 ∀(w:World) (a:Array Value),GL gX w->VRs gX args a.toList->Calls P f a w λe w'=>∃x,e=.returned x/\VR gX v x/\Fr gX w w'
def LS{ro:Nat}{w w':World}(h:Fr (roI gX ro) w w'):Fr gX w w':=by
 have:roI gX ro=gX:=by
  funext b;unfold roI gX;cases Nat.blt b ro<;>rfl
 rwa[this]at h
def WR.nothing(w:World):WR gX [] 0 w:=⟨λ_ _ _ _ h=>(by cases h),λ_ _ h=>(by cases h),λ_ _ h=>(by cases h),λ_ _ h=>(by cases h)⟩
def nE.call{f:Nat}{args:List V}{v:V}(h:nE P f args v)(U:V.flats args=true)(H:List (Nat×Blk))(fr:Nat):IT P f args H fr { val:=v }:=by
 intro ι nb w O E X _ _ hx;refine(h w O (X.mono λb q h=>by cases h) (VRs.flat _ _ U hx)).mono λe w' ⟨x,F,J,C⟩=>?_;subst F;have hsz:=C.size;refine⟨ι,λ_ _ _=>rfl,λb q F=>by simp[isIn]at F,λb q F J=>by simp at J;omega,λ_ _ h _=>h,?_,?_,rfl,VR.mono (λ_ _ h=>by cases h) _ _ J⟩
 ·simp only[dQ,us];refine⟨E.inj,λb r G=>?_,λb r G=>?_,λb blk W Z=>?_⟩
  ·have:=E.low b r G;omega
  ·have:=E.dom b r G;omega
  ·exact(E.blk b blk W Z).map rfl (λq Y=>C.blk q.r (E.dom b q Y) (λ_ _ h=>by cases h)) (λ_ _ x=>x) (λ_ x=>x)
 ·refine⟨C.os,C.tape,C.output,C.size,λk Q _=>C.blk k Q (λ_ _ h=>by cases h)⟩
end Go.Abs
