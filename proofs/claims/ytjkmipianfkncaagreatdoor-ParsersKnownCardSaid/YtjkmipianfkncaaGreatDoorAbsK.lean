
import Derived.Test.YtjkmipianfkncaaGreatDoorAbsCut
import Derived.LoopN
import Derived.Scope
set_option linter.unusedSimpArgs false
set_option linter.unusedVariables false
set_option linter.defProp false
namespace Go.Abs
variable {P:Program}
def xw{α:Type}{E:List Ent}(j:∀x∈E,gg P x){n:Nat}{ι0:Inj}{w0:Base}{ops:List Oper}{k:Ex->St->Option α}{z:α}:
  ∀(l:List Oper) (s:St) (ι:Inj) (a:Act) (w:World),Inv n ι0 w0 ι s a w->Da P E n ops l s k=some z->
   wpList P ops.toArray (Post n ι0 w0 λex s'=>k ex s'=some z) l a w
 | [],s,ι,a,w,i,h=>⟨.normal,s,ι,rfl,i,h⟩
 | o::l,s,ι,a,w,i,h=>by
  simp only[Da]at h;obtain⟨f,s',h,e,p,_⟩:=LN i h;unfold wpList;cases f
  ·simp only at h;rw[p];simp only[bj,az];split at h
   ·rename_i hd;exact xw j l _ ι _ w (e.skip hd) h
   ·cases h
  ·simp only at h;rw[p];simp only[aG];exact .inl (Ak j e (λb r=>e.fresh b r) (aQ _) h (λs' d m w' g c=>xw j l s' d m w' c g)
    (λv s' d x m w' g q c=>⟨.pan v,s',d,⟨x,rfl,q⟩,c,g⟩))
def oI{α:Type}{E:List Ent}(p:∀x∈E,gg P x){L:List Sub}{n:Nat}:∀(c:AC) (s:St) (k:Ex->St->Option α) (z:α),jF P n L c->run P E L n c s k=some z->
  SemC P n c.code s λex s'=>k ex s'=some z
 | .skip,s,k,z,_,h=>λι0 w0 ι a w j=>wp_skip ⟨.normal,s,ι,rfl,j,h⟩
 | .ret,s,k,z,_,h=>λι0 w0 ι a w j=>wp_ret ⟨.ret,s,ι,rfl,j,h⟩
 | .exit id,s,k,z,_,h=>λι0 w0 ι a w j=>wp_exit ⟨.exit id,s,ι,rfl,j,h⟩
 | .seq x y,s,k,z,hs,h=>by
  intro ι0 w0 ι a w j;simp only[jF]at hs;simp only[run]at h;refine wp_seq (wp_mono (oI p x s _ z hs.1 h ι0 w0 ι a w j) ?_);rintro e r w' ⟨ex,s',d,f,o,g⟩;cases ex with
  | normal=>simp only[ExR]at f;subst f;exact oI p y s' k z hs.2 g ι0 w0 d r w' o
  | exit id=>simp only[ExR]at f;subst f;exact⟨.exit id,s',d,rfl,o,g⟩
  | ret=>simp only[ExR]at f;subst f;exact⟨.ret,s',d,rfl,o,g⟩
  | pan v=>obtain⟨x,rfl,hx⟩:=f;exact⟨.pan v,s',d,⟨x,rfl,hx⟩,o,g⟩
 | .cond c x y,s,k,z,hs,h=>by
  intro ι0 w0 ι a w j;simp only[jF]at hs;simp only[run]at h;split at h
  ·rename_i b q;have t:=br j.tmps q;simp only[VR]at t;cases b
   ·exact wp_cond_false t (oI p y s k z hs.2 h ι0 w0 ι a w j)
   ·exact wp_cond_true t (oI p x s k z hs.1 h ι0 w0 ι a w j)
  ·cases h
 | .block id x,s,k,z,hs,h=>by
  intro ι0 w0 ι a w j;simp only[jF]at hs;simp only[run]at h;refine wp_block (wp_mono (oI p x s _ z hs h ι0 w0 ι a w j) ?_);rintro e r w' ⟨ex,s',d,f,o,g⟩;cases ex with
  | normal=>simp only[ExR]at f;subst f;exact⟨.normal,s',d,rfl,o,g⟩
  | exit i=>
   simp only[ExR]at f;subst f;simp only[Exit.inBlock];cases q:Nat.beq i id with
   | true=>
    simp only[q]at g;rw[ae (bG q)];exact⟨.normal,s',d,rfl,o,g⟩
   | false=>
    simp only[q]at g;rw[ab (by rintro rfl;simp at q)];exact⟨.exit i,s',d,rfl,o,g⟩
  | ret=>simp only[ExR]at f;subst f;exact⟨.ret,s',d,rfl,o,g⟩
  | pan v=>obtain⟨x,rfl,hx⟩:=f;exact⟨.pan v,s',d,⟨x,rfl,hx⟩,o,g⟩
 | .reg id ops,s,k,z,_,h=>λι0 w0 ι a w j=>wp_region_lit (xw p ops s ι a w j h)
 | .draw id ops,s,k,z,_,h=>OG p h id
 | .sub m c,s,k,z,hs,h=>by
  simp only[jF]at hs;simp only[run]at h;exact hs α s k z h
 | .loop c,s,k,z,hs,h=>by
  simp only[jF]at hs;simp only[run]at h;intro ι0 w0 ι a w j;refine wp_loop_rounds 12 ?_;generalize 12=m at h
  induction m generalizing s ι a w with
  | zero=>simp[O4]at h
  | succ m ih=>
   rw[rounds_succ];simp only[O4]at h;refine tC ?_ (oI p c s _ z hs h ι0 w0 ι a w j);rintro e r w' ⟨ex,s',d,f,o,g⟩;cases ex with
   | normal=>simp only[ExR]at f;subst f;exact ih s' d r w' (by assumption) (by assumption)
   | exit id=>simp only[ExR]at f;subst f;exact⟨.exit id,s',d,rfl,o,g⟩
   | ret=>simp only[ExR]at f;subst f;exact⟨.ret,s',d,rfl,o,g⟩
   | pan v=>obtain⟨x,rfl,hx⟩:=f;exact⟨.pan v,s',d,⟨x,rfl,hx⟩,o,g⟩
 | .scope c,s,k,z,hs,h=>by
  simp only[jF]at hs;simp only[run]at h;intro ι0 w0 ι a w j;refine wp_scope_straight (tC ?_ (oI p c s _ z hs h ι0 w0 ι a w j));rintro e r w' ⟨ex,s',d,f,o,g⟩;cases ex with
  | normal=>simp only[ExR]at f;subst f;exact⟨.normal,s',d,rfl,o,g⟩
  | exit id=>simp only[ExR]at f;subst f;exact⟨.exit id,s',d,rfl,o,g⟩
  | ret=>simp only[ExR]at f;subst f;exact⟨.ret,s',d,rfl,o,g⟩
  | pan v=>obtain⟨x,rfl,hx⟩:=f;exact⟨.pan v,s',d,⟨x,rfl,hx⟩,o,g⟩
 | .label l,s,k,z,_,h=>λι0 w0 ι a w j=>wp_label ⟨.normal,s,ι,rfl,j,h⟩
 | .bad c,s,k,z,_,h=>by simp[run]at h
def si:List V->Nat->List (Nat×Option V)
 | [],_=>[]
 | v::l,j=>(j,some v)::si l (j+1)
def retK{α:Type}(P:Program):List ResultVar->St->(List V->Option α)->Option α
 | [],_,c=>c []
 | .tmp t::r,s,c=>match look s.T t with
  | some (some v)=>retK P r s λl=>c (v::l)
  | _=>none
 | .cell t a::r,s,c=>match look s.T t with
  | some (some (.p b o))=>match look s.H b with
   | some blk=>yv P a blk o λv=>retK P r s λl=>c (v::l)
   | none=>none
  | _=>none
def Ky:List V->V
 | [v]=>v
 | l=>.tp l
def finK{α:Type}(P:Program)(a:List ResultVar)(K:Bool->V->St->Option α):Ex->St->Option α
 | .normal,s=>retK P a s λl=>K false (Ky l) s
 | .ret,s=>retK P a s λl=>K false (Ky l) s
 | .pan v,s=>K true v s
 | .exit _,_=>none
def rz:∀(l:List V) (j t:Nat),look (si l j) t=if j<=t then(l[t - j]?).map some else none
 | [],j,t=>by simp[si,look]
 | v::l,j,t=>by
  simp only[si,aR,rz l (j+1) t];by_cases h:j=t
  ·subst h;simp
  ·simp only[h,az];by_cases a:j<=t
   ·rw[ae (by omega),ae a,show t - j=(t - (j+1))+1 by omega];rfl
   ·rw[ab (by omega),ab a]
def Pm(b:Array Value):ResultVar->Sem Value
 | .tmp t=>pure (b.getD t undef)
 | .cell a t=>do loadVar t (<-asAddr (b.getD a undef))
def zJ(fn:Func)(b:Array Value):results fn b=(do
  let a <-fn.results.mapM (Pm b)
  pure (if h:a.size=1 then a[0]else .tuple a)):=by
 unfold results;congr 2
def FP{α:Type}{n:Nat}{ι0 ι:Inj}{w0:Base}{s:St}{a:Act}{w:World}(f:Inv n ι0 w0 ι s a w):∀(e:List ResultVar) (c:List V->Option α) (z:α),retK P e s c=some z->
  ∃l d,c l=some z/\VRs ι l d/\(e.mapM (Pm a.tmps)).run P w=.ok d w
 | [],c,z,h=>⟨[],[],h,by simp[VRs],rfl⟩
 | .tmp t::e,c,z,h=>by
  simp only[retK]at h;split at h
  ·rename_i v p;obtain⟨x,m,g⟩:=f.tmps t v p;obtain⟨l,d,k,i,j⟩:=FP f e _ z h;refine⟨v::l,x::d,k,by simp only[VRs];exact⟨x,d,rfl,g,i⟩,?_⟩;have hx:a.tmps.getD t undef=x:=by rw[qf,m];rfl
   simp only[D9,Pm,aw,aB,ay,j,hx]
  ·cases h
 | .cell t E::e,c,z,h=>by
  simp only[retK]at h;split at h
  ·rename_i b o p;obtain⟨x,m,g⟩:=f.tmps t _ p;split at h
   ·rename_i blk D;obtain⟨v,X,r,C,y,A,B⟩:=HE f.mem D h;obtain⟨l,d,k,i,j⟩:=FP f e _ z C;refine⟨v::l,X::d,k,by simp only[VRs];exact⟨X,d,rfl,B,i⟩,?_⟩;simp only[VR]at g;obtain⟨F,u,rfl⟩:=g;rw[y]at u;cases u;have hx:a.tmps.getD t undef=.pointer (some ⟨r.r,o,none⟩):=by rw[qf,m];rfl
    have q:(loadVar E ⟨r.r,o,none⟩).run P w=.ok X w:=by
     simpa only[Instr.loadAt,Instr.sureAddr,aw,aB,ay]using A
    simp only[D9,Pm,aw,ay,j,hx,asAddr,aB,q]
   ·cases h
  ·cases h
def Ph{ι:Inj}{l:List V}{a:List Value}(h:VRs ι l a):VR ι (Ky l) (if h:a.toArray.size=1 then a.toArray[0]else .tuple a.toArray):=by
 have c:=h.length;unfold Ky;split
 ·rename_i v;simp only[VRs]at h;obtain⟨y,ys,rfl,b,rfl⟩:=h;simpa using b
 ·rename_i d;have:¬a.toArray.size=1:=by
   intro b;simp only[AA]at b;rw[c]at b
   match l,b with
   | [v],_=>exact d v rfl
  rw[dif_neg this];simp only[VR];exact⟨_,rfl,by simpa using h⟩
def zb{α:Type}{fn:Func}{n:Nat}{ι0 ι:Inj}{w0:Base}{s:St}{a:Act}{w:World}(f:Inv n ι0 w0 ι s a w){c:V->Option α}{z:α}
  (h:retK P fn.results.toList s (λl=>c (Ky l))=some z):∃v x,c v=some z/\VR ι v x/\(results fn a.tmps).run P w=.ok x w:=by
 obtain⟨l,g,d,e,b⟩:=FP f _ _ _ h;refine⟨_,_,d,Ph e,?_⟩;rw[zJ,Qu];simp only[aw,Sem.run_map,b,ay,aB]
def AV{α:Type}(P:Program)(f:Nat)(args:List V)(H0:List (Nat×Blk))(nb0 ro:Nat)(K:Bool->V->St->Option α)(z:α):Prop:=
 ∀(ι0:Inj) (w:World) (a:Array Value),WR ι0 H0 nb0 w->(∀b q,ι0 b=some (some q)->q.fz=true->b<ro)->GL (roI ι0 ro) w->VRs ι0 args a.toList->
  Calls P f a w λe w'=>∃(pan:Bool) (v:V) (s:St) (ι:Inj),K pan v s=some z/\(∀b q,ι0 b=some q->ι b=some q\/s.rb<=b)/\(∀b q,ι b=some (some q)->(∃c,ι0 b=some (some c)/\c.r=q.r)\/w.heap.size<=q.r)/\
   WR ι s.H s.nb w'/\(∀b q,ι b=some (some q)->q.fz=true->b<s.ro)/\Fr (roI ι0 s.ro) w w'/\RetR ι { val:=v,pan:=pan } e
def Mc{α:Type}{E:List Ent}(J:∀x∈E,gg P x){L:List Sub}{f:Nat}{fn:Func}{c:Code}{ac:AC}(O:P.funcs[f]?=some fn)(I:fn.body=some c)(hc:ac.code=c)
  (R:jF P fn.ntmps L ac) {args:List V} {H0:List (Nat×Blk)} {nb0 ro rb:Nat} {K:Bool->V->St->Option α} {z:α} (C:Nat.ble args.length fn.ntmps=true)
  (h:run P E L fn.ntmps ac ⟨si args 0,H0,nb0,nb0,ro,rb⟩ (finK P fn.results.toList K)=some z) (ι0:Inj) (w:World) (d:Array Value) (D:WR ι0 H0 nb0 w) (p:∀b q,ι0 b=some (some q)->q.fz=true->b<ro) (o:GL (roI ι0 ro) w) (hx:VRs ι0 args d.toList):
  Calls P f d w λe w'=>∃(pan:Bool) (v:V) (s:St) (ι:Inj),K pan v s=some z/\(∀b q,ι0 b=some q->ι b=some q\/s.rb<=b)/\(∀b q,ι b=some (some q)->(∃l,ι0 b=some (some l)/\l.r=q.r)\/w.heap.size<=q.r)/\
   WR ι s.H s.nb w'/\(∀b q,ι b=some (some q)->q.fz=true->b<s.ro)/\Fr (roI ι0 s.ro) w w'/\RetR ι { val:=v,pan:=pan } e:=by
 have B:d.size=args.length:=by simpa using hx.length
 have C:=aH C;refine calls_of_wp O I ?_;rw[<-hc];have G:Inv fn.ntmps ι0 ⟨w,[]⟩ ι0 ⟨si args 0,H0,nb0,nb0,ro,rb⟩ { tmps:=d++Array.replicate (fn.ntmps - d.size) undef,defers:=[] } w:=by
  refine⟨by simp;omega,rfl,λt v m=>?_,D,λ_ _ h=>.inl h,λ_ q h=>.inl ⟨q,h,rfl⟩,Fr.refl _ _,λb r h=>D.low b r h,p,o⟩;rw[rz,ae (du _)]at m;simp only[pL]at m;cases y:args[t]? with
  | none=>simp[y]at m
  | some u=>
   simp only[y,fi,ar]at m;subst m;obtain⟨x,i,a⟩:=hx.get y;have h1':d[t]?=some x:=by simpa using i
   have n:t<d.size:=by
    rcases aF t d.size with A | A
    ·exact A
    ·rw[xO A]at h1';cases h1'
   exact⟨x,by rw[RE n];exact h1',a⟩
 refine tC ?_ (oI J ac _ _ z R h ι0 ⟨w,[]⟩ ι0 _ w G);rintro e Q w' ⟨ex,s',j,i,a,g⟩;have k:finK P fn.results.toList K .ret s'=some z->∃v,(results fn Q.tmps).run P w'=.ok v w'/\∃(pan:Bool) (u:V) (s:St) (ι:Inj),K pan u s=some z/\(∀b q,ι0 b=some q->ι b=some q\/s.rb<=b)/\(∀b q,ι b=some (some q)->(∃l,ι0 b=some (some l)/\l.r=q.r)\/w.heap.size<=q.r)/\
   WR ι s.H s.nb w'/\(∀b q,ι b=some (some q)->q.fz=true->b<s.ro)/\Fr (roI ι0 s.ro) w w'/\RetR ι { val:=u,pan:=pan } (.returned v):=by
  intro g;simp only[finK]at g;obtain⟨v,x,N,M,F⟩:=zb (fn:=fn) (c:=λv=>K false v s') a g;exact⟨x,F,false,v,s',j,N,a.ext,a.new,a.mem,a.fz,a.fr,rfl,M⟩
 cases ex with
 | normal=>
  simp only[ExR]at i;subst i;exact⟨a.defers,k g⟩
 | ret=>
  simp only[ExR]at i;subst i;exact⟨a.defers,k g⟩
 | exit id=>simp[finK]at g
 | pan v=>
  obtain⟨x,rfl,hx⟩:=i;exact⟨a.defers,true,v,s',j,g,a.ext,a.new,a.mem,a.fz,a.fr,rfl,x,rfl,hx⟩
mutual
def V.flat:V->Bool
 | .b _ | .i _ _ | .s _ | .pn | .sn | .nf | .ni | .ai _ _ _ | .unk=>true
 | .p _ _ | .sl _ _ _ _ | .pr _ _ _ _ | .ws _ | .rs _ _ _ _ _ | .mp _=>false
 | .fn _ l | .ag l | .tp l=>V.flats l
 | .it _ v=>V.flat v
def V.flats:List V->Bool
 | []=>true
 | v::l=>V.flat v&&V.flats l
end
mutual
def VR.flat{ι J:Inj}:∀(v:V) (x:Value),V.flat v=true->VR ι v x->VR J v x
 | .b _,_,_,hx | .i _ _,_,_,hx | .s _,_,_,hx | .pn,_,_,hx | .sn,_,_,hx | .nf,_,_,hx | .ni,_,_,hx | .ai _ _ _,_,_,hx | .unk,_,_,hx=>by simpa only[VR]using hx
 | .p b o,x,C,hx=>by simp[V.flat]at C
 | .mp b,x,C,hx=>by simp[V.flat]at C
 | .pr z b j o,x,C,hx=>by simp[V.flat]at C
 | .ws b,x,C,hx=>by simp[V.flat]at C
 | .rs z b j n _,x,C,hx=>by simp[V.flat]at C
 | .sl b o len cap,x,C,hx=>by simp[V.flat]at C
 | .fn f cap,x,C,hx=>by
  simp only[V.flat]at C;simp only[VR]at hx ⊢;obtain⟨G,E,F⟩:=hx;exact⟨G,E,VRs.flat _ _ C F⟩
 | .it t v,x,C,hx=>by
  simp only[V.flat]at C;simp only[VR]at hx ⊢;obtain⟨y,E,F⟩:=hx;exact⟨y,E,VR.flat _ _ C F⟩
 | .ag l,x,C,hx=>by
  simp only[V.flat]at C;simp only[VR]at hx ⊢;obtain⟨G,E,F⟩:=hx;exact⟨G,E,VRs.flat _ _ C F⟩
 | .tp l,x,C,hx=>by
  simp only[V.flat]at C;simp only[VR]at hx ⊢;obtain⟨G,E,F⟩:=hx;exact⟨G,E,VRs.flat _ _ C F⟩
def VRs.flat{ι E:Inj}:∀(l:List V) (F:List Value),V.flats l=true->VRs ι l F->VRs E l F
 | [],_,_,hx=>by simpa[VRs]using hx
 | v::l,F,C,hx=>by
  simp only[V.flats,aC]at C;simp only[VRs]at hx ⊢;obtain⟨y,ys,J,O,G⟩:=hx;exact⟨y,ys,J,VR.flat _ _ C.1 O,VRs.flat _ _ C.2 G⟩
end
def jG:Inj:=λ_=>none
def lj(P:Program)(f:Nat)(args:List V)(v:V):Prop:=
 ∀(w:World) (a:Array Value),GL jG w->VRs jG args a.toList->Calls P f a w λe w'=>∃x,e=.returned x/\VR jG v x/\Fr jG w w'
def LO{ro:Nat}{w w':World}(h:Fr (roI jG ro) w w'):Fr jG w w':=by
 have:roI jG ro=jG:=by
  funext b;unfold roI jG;cases Nat.blt b ro<;>rfl
 rwa[this]at h
def WR.nothing(w:World):WR jG [] 0 w:=⟨λ_ _ _ _ h=>(by cases h),λ_ _ h=>(by cases h),λ_ _ h=>(by cases h),λ_ _ h=>(by cases h)⟩
def lj.call{f:Nat}{args:List V}{v:V}(h:lj P f args v)(O:V.flats args=true)(H:List (Nat×Blk))(fr:Nat):Gw P f args H fr { val:=v }:=by
 intro ι nb w W E U _ _ hx;refine(h w W (U.mono λb q h=>by cases h) (VRs.flat _ _ O hx)).mono λe w' ⟨x,F,G,C⟩=>?_;subst F;have Y:=C.size;refine⟨ι,λ_ _ _=>rfl,λb q F=>by simp[isIn]at F,λb q F G=>by simp at G;omega,λ_ _ h _=>h,?_,?_,rfl,VR.mono (λ_ _ h=>by cases h) _ _ G⟩
 ·simp only[dI,tN];refine⟨E.inj,λb r J=>?_,λb r J=>?_,λb blk X hd=>?_⟩
  ·have:=E.low b r J;omega
  ·have:=E.dom b r J;omega
  ·exact(E.blk b blk X hd).map rfl (λq Z=>C.blk q.r (E.dom b q Z) (λ_ _ h=>by cases h)) (λ_ _ x=>x) (λ_ x=>x)
 ·refine⟨C.os,C.tape,C.output,C.size,λk Q _=>C.blk k Q (λ_ _ h=>by cases h)⟩
end Go.Abs
