
/- The interpreter is sound: regions, code, functions.
   Conditions: none; generic over the program. -/
import Derived.Test.YthemneooekobkaaGreatDoorAbsCut
import Derived.LoopN
import Derived.Scope
set_option linter.unusedSimpArgs false
set_option linter.unusedVariables false
namespace Go.Abs
variable {P:Program}
theorem xh {α:Type} {E:List Ent} (g:∀x∈E,ge P x) {n:Nat} {ι0:Inj} {w0:Base} {ops:List Oper} {k:Ex->St->Option α} {z:α}:
  ∀(l:List Oper) (s:St) (ι:Inj) (a:Act) (w:World),Inv n ι0 w0 ι s a w->ES P E n ops l s k=some z->
   wpList P ops.toArray (Post n ι0 w0 λex s'=>k ex s'=some z) l a w
 | [],s,ι,a,w,j,h=>⟨.normal,s,ι,rfl,j,h⟩
 | o::l,s,ι,a,w,j,h=>by
  simp only [ES] at h;obtain ⟨f,s',h,d,m,_⟩:=LW j h;unfold wpList;cases f
  ·simp only at h;rw [m];simp only [bs,aG];split at h
   ·rename_i r;exact xh g l _ ι _ w (d.skip r) h
   ·cases h
  ·simp only at h;rw [m];simp only [aM];exact .inl (CP g d (λb t=>d.fresh b t) (bi _) h (λs' e p w' i c=>xh g l s' e p w' c i)
    (λv s' e x p w' i q c=>⟨.pan v,s',e,⟨x,rfl,q⟩,c,i⟩))
theorem pm {α:Type} {E:List Ent} (p:∀x∈E,ge P x) {L:List Sub} {n:Nat}:∀(c:AC) (s:St) (k:Ex->St->Option α) (z:α),jV P n L c->run P E L n c s k=some z->
  SemC P n c.code s λex s'=>k ex s'=some z
 | .skip,s,k,z,_,h=>λι0 w0 ι a w j=>wp_skip ⟨.normal,s,ι,rfl,j,h⟩
 | .ret,s,k,z,_,h=>λι0 w0 ι a w j=>wp_ret ⟨.ret,s,ι,rfl,j,h⟩
 | .exit id,s,k,z,_,h=>λι0 w0 ι a w j=>wp_exit ⟨.exit id,s,ι,rfl,j,h⟩
 | .seq x y,s,k,z,hs,h=>by
  intro ι0 w0 ι a w j;simp only [jV] at hs;simp only [run] at h;refine wp_seq (wp_mono (pm p x s _ z hs.1 h ι0 w0 ι a w j) ?_);rintro e r w' ⟨ex,s',d,f,o,g⟩;cases ex with
  | normal=>simp only [ExR] at f;subst f;exact pm p y s' k z hs.2 g ι0 w0 d r w' o
  | exit id=>simp only [ExR] at f;subst f;exact ⟨.exit id,s',d,rfl,o,g⟩
  | ret=>simp only [ExR] at f;subst f;exact ⟨.ret,s',d,rfl,o,g⟩
  | pan v=>obtain ⟨x,rfl,hx⟩:=f;exact ⟨.pan v,s',d,⟨x,rfl,hx⟩,o,g⟩
 | .cond c x y,s,k,z,hs,h=>by
  intro ι0 w0 ι a w j;simp only [jV] at hs;simp only [run] at h;split at h
  ·rename_i b q;have t:=bu j.tmps q;simp only [VR] at t;cases b
   ·exact wp_cond_false t (pm p y s k z hs.2 h ι0 w0 ι a w j)
   ·exact wp_cond_true t (pm p x s k z hs.1 h ι0 w0 ι a w j)
  ·cases h
 | .block id x,s,k,z,hs,h=>by
  intro ι0 w0 ι a w j;simp only [jV] at hs;simp only [run] at h;refine wp_block (wp_mono (pm p x s _ z hs h ι0 w0 ι a w j) ?_);rintro e r w' ⟨ex,s',d,f,o,g⟩;cases ex with
  | normal=>simp only [ExR] at f;subst f;exact ⟨.normal,s',d,rfl,o,g⟩
  | exit i=>
   simp only [ExR] at f;subst f;simp only [Exit.inBlock];cases q:Nat.beq i id with
   | true=>
    simp only [q] at g;rw [ae (bB q)];exact ⟨.normal,s',d,rfl,o,g⟩
   | false=>
    simp only [q] at g;rw [ab (by rintro rfl;simp at q)];exact ⟨.exit i,s',d,rfl,o,g⟩
  | ret=>simp only [ExR] at f;subst f;exact ⟨.ret,s',d,rfl,o,g⟩
  | pan v=>obtain ⟨x,rfl,hx⟩:=f;exact ⟨.pan v,s',d,⟨x,rfl,hx⟩,o,g⟩
 | .reg id ops,s,k,z,_,h=>λι0 w0 ι a w j=>wp_region_lit (xh p ops s ι a w j h)
 | .draw id ops,s,k,z,_,h=>Qa p h id
 | .sub m c,s,k,z,hs,h=>by
  simp only [jV] at hs;simp only [run] at h;exact hs α s k z h
 | .loop c,s,k,z,hs,h=>by
  simp only [jV] at hs;simp only [run] at h;intro ι0 w0 ι a w j;refine wp_loop_rounds 12 ?_;generalize 12=m at h
  induction m generalizing s ι a w with
  | zero=>simp [O8] at h
  | succ m ih=>
   rw [rounds_succ];simp only [O8] at h;refine uu ?_ (pm p c s _ z hs h ι0 w0 ι a w j);rintro e r w' ⟨ex,s',d,f,o,g⟩;cases ex with
   | normal=>simp only [ExR] at f;subst f;exact ih s' d r w' (by assumption) (by assumption)
   | exit id=>simp only [ExR] at f;subst f;exact ⟨.exit id,s',d,rfl,o,g⟩
   | ret=>simp only [ExR] at f;subst f;exact ⟨.ret,s',d,rfl,o,g⟩
   | pan v=>obtain ⟨x,rfl,hx⟩:=f;exact ⟨.pan v,s',d,⟨x,rfl,hx⟩,o,g⟩
 | .scope c,s,k,z,hs,h=>by
  simp only [jV] at hs;simp only [run] at h;intro ι0 w0 ι a w j;refine wp_scope_straight (uu ?_ (pm p c s _ z hs h ι0 w0 ι a w j));rintro e r w' ⟨ex,s',d,f,o,g⟩;cases ex with
  | normal=>simp only [ExR] at f;subst f;exact ⟨.normal,s',d,rfl,o,g⟩
  | exit id=>simp only [ExR] at f;subst f;exact ⟨.exit id,s',d,rfl,o,g⟩
  | ret=>simp only [ExR] at f;subst f;exact ⟨.ret,s',d,rfl,o,g⟩
  | pan v=>obtain ⟨x,rfl,hx⟩:=f;exact ⟨.pan v,s',d,⟨x,rfl,hx⟩,o,g⟩
 | .label l,s,k,z,_,h=>λι0 w0 ι a w j=>wp_label ⟨.normal,s,ι,rfl,j,h⟩
 | .bad c,s,k,z,_,h=>by simp [run] at h
def tC:List V->Nat->List (Nat×Option V)
 | [],_=>[]
 | v::l,j=>(j,some v)::tC l (j+1)
def retK {α:Type} (P:Program):List ResultVar->St->(List V->Option α)->Option α
 | [],_,c=>c []
 | .tmp t::r,s,c=>match look s.T t with
  | some (some v)=>retK P r s λl=>c (v::l)
  | _=>none
 | .cell t a::r,s,c=>match look s.T t with
  | some (some (.p b o))=>match look s.H b with
   | some blk=>zf P a blk o λv=>retK P r s λl=>c (v::l)
   | none=>none
  | _=>none
def Me:List V->V
 | [v]=>v
 | l=>.tp l
def finK {α:Type} (P:Program) (a:List ResultVar) (K:Bool->V->St->Option α):Ex->St->Option α
 | .normal,s=>retK P a s λl=>K false (Me l) s
 | .ret,s=>retK P a s λl=>K false (Me l) s
 | .pan v,s=>K true v s
 | .exit _,_=>none
theorem sj:∀(l:List V) (j t:Nat),look (tC l j) t=if j<=t then (l[t - j]?).map some else none
 | [],j,t=>by simp [tC,look]
 | v::l,j,t=>by
  simp only [tC,aX,sj l (j+1) t];by_cases h:j=t
  ·subst h;simp
  ·simp only [h,aG];by_cases a:j<=t
   ·rw [ae (by omega),ae a,show t - j=(t - (j+1))+1 by omega];rfl
   ·rw [ab (by omega),ab a]
def OW (b:Array Value):ResultVar->Sem Value
 | .tmp t=>pure (b.getD t undef)
 | .cell a t=>do loadVar t (<-asAddr (b.getD a undef))
theorem Ap (fn:Func) (b:Array Value):results fn b=(do
  let a <-fn.results.mapM (OW b)
  pure (if h:a.size=1 then a[0] else .tuple a)):=by
 unfold results;congr 2
theorem FC {α:Type} {n:Nat} {ι0 ι:Inj} {w0:Base} {s:St} {a:Act} {w:World} (f:Inv n ι0 w0 ι s a w):∀(e:List ResultVar) (c:List V->Option α) (z:α),retK P e s c=some z->
  ∃l d,c l=some z/\VRs ι l d/\(e.mapM (OW a.tmps)).run P w=.ok d w
 | [],c,z,h=>⟨[],[],h,by simp [VRs],rfl⟩
 | .tmp t::e,c,z,h=>by
  simp only [retK] at h;split at h
  ·rename_i v i;obtain ⟨x,j,g⟩:=f.tmps t v i;obtain ⟨l,d,p,q,m⟩:=FC f e _ z h;refine ⟨v::l,x::d,p,by simp only [VRs];exact ⟨x,d,rfl,g,q⟩,?_⟩;have hx:a.tmps.getD t undef=x:=by rw [rt,j];rfl
   simp only [yx,OW,az,aF,aB,m,hx]
  ·cases h
 | .cell t A::e,c,z,h=>by
  simp only [retK] at h;split at h
  ·rename_i b o i;obtain ⟨x,j,g⟩:=f.tmps t _ i;split at h
   ·rename_i blk C;obtain ⟨v,X,r,y,E,D,B⟩:=HY f.mem C h;obtain ⟨l,d,p,q,m⟩:=FC f e _ z y;refine ⟨v::l,X::d,p,by simp only [VRs];exact ⟨X,d,rfl,B,q⟩,?_⟩;simp only [VR] at g;obtain ⟨F,u,rfl⟩:=g;rw [E] at u;cases u;have hx:a.tmps.getD t undef=.pointer (some ⟨r.r,o,none⟩):=by rw [rt,j];rfl
    have k:(loadVar A ⟨r.r,o,none⟩).run P w=.ok X w:=by
     simpa only [Instr.loadAt,Instr.sureAddr,az,aF,aB] using D
    simp only [yx,OW,az,aB,m,hx,asAddr,aF,k]
   ·cases h
  ·cases h
theorem QD {ι:Inj} {l:List V} {b:List Value} (h:VRs ι l b):VR ι (Me l) (if h:b.toArray.size=1 then b.toArray[0] else .tuple b.toArray):=by
 have d:=h.length;unfold Me;split
 ·rename_i v;simp only [VRs] at h;obtain ⟨y,e,rfl,a,rfl⟩:=h;simpa using a
 ·rename_i c;have:¬b.toArray.size=1:=by
   intro a;simp only [AL] at a;rw [d] at a
   match l,a with
   | [v],_=>exact c v rfl
  rw [dif_neg this];simp only [VR];exact ⟨_,rfl,by simpa using h⟩
theorem zl {α:Type} {fn:Func} {n:Nat} {ι0 ι:Inj} {w0:Base} {s:St} {a:Act} {w:World} (f:Inv n ι0 w0 ι s a w) {c:V->Option α} {z:α}
  (h:retK P fn.results.toList s (λl=>c (Me l))=some z):∃v x,c v=some z/\VR ι v x/\(results fn a.tmps).run P w=.ok x w:=by
 obtain ⟨l,g,d,b,e⟩:=FC f _ _ _ h;refine ⟨_,_,d,QD b,?_⟩;rw [Ap,RV];simp only [az,Sem.run_map,e,aB,aF]
def AK {α:Type} (P:Program) (f:Nat) (args:List V) (H0:List (Nat×Blk)) (nb0 ro:Nat) (K:Bool->V->St->Option α) (z:α):Prop:=
 ∀(ι0:Inj) (w:World) (c:Array Value),WR ι0 H0 nb0 w->(∀b q,ι0 b=some (some q)->q.fz=true->b<ro)->GL (roI ι0 ro) w->VRs ι0 args c.toList->
  Calls P f c w λe w'=>∃(pan:Bool) (v:V) (s:St) (ι:Inj),K pan v s=some z/\(∀b q,ι0 b=some q->ι b=some q\/s.rb<=b)/\(∀b q,ι b=some (some q)->(∃a,ι0 b=some (some a)/\a.r=q.r)\/w.heap.size<=q.r)/\
   WR ι s.H s.nb w'/\(∀b q,ι b=some (some q)->q.fz=true->b<s.ro)/\Fr (roI ι0 s.ro) w w'/\RetR ι { val:=v,pan:=pan } e
theorem NT {α:Type} {E:List Ent} (M:∀x∈E,ge P x) {L:List Sub} {f:Nat} {fn:Func} {c:Code} {ac:AC} (O:P.funcs[f]?=some fn) (D:fn.body=some c) (hc:ac.code=c)
  (N:jV P fn.ntmps L ac) {args:List V} {H0:List (Nat×Blk)} {nb0 ro rb:Nat} {K:Bool->V->St->Option α} {z:α} (B:Nat.ble args.length fn.ntmps=true)
  (h:run P E L fn.ntmps ac ⟨tC args 0,H0,nb0,nb0,ro,rb⟩ (finK P fn.results.toList K)=some z) (ι0:Inj) (w:World) (d:Array Value) (C:WR ι0 H0 nb0 w) (m:∀b q,ι0 b=some (some q)->q.fz=true->b<ro) (n:GL (roI ι0 ro) w) (hx:VRs ι0 args d.toList):
  Calls P f d w λe w'=>∃(pan:Bool) (v:V) (s:St) (ι:Inj),K pan v s=some z/\(∀b q,ι0 b=some q->ι b=some q\/s.rb<=b)/\(∀b q,ι b=some (some q)->(∃k,ι0 b=some (some k)/\k.r=q.r)\/w.heap.size<=q.r)/\
   WR ι s.H s.nb w'/\(∀b q,ι b=some (some q)->q.fz=true->b<s.ro)/\Fr (roI ι0 s.ro) w w'/\RetR ι { val:=v,pan:=pan } e:=by
 have A:d.size=args.length:=by simpa using hx.length
 have B:=aN B;refine calls_of_wp O D ?_;rw [<-hc];have I:Inv fn.ntmps ι0 ⟨w,[]⟩ ι0 ⟨tC args 0,H0,nb0,nb0,ro,rb⟩ { tmps:=d++Array.replicate (fn.ntmps - d.size) undef,defers:=[] } w:=by
  refine ⟨by simp;omega,rfl,λt v l=>?_,C,λ_ _ h=>.inl h,λ_ q h=>.inl ⟨q,h,rfl⟩,Fr.refl _ _,λb r h=>C.low b r h,m,n⟩;rw [sj,ae (ie _)] at l;simp only [rN] at l;cases y:args[t]? with
  | none=>simp [y] at l
  | some u=>
   simp only [y,fi,aw] at l;subst l;obtain ⟨x,g,a⟩:=hx.get y;have h1':d[t]?=some x:=by simpa using g
   have o:t<d.size:=by
    rcases aI t d.size with p | p
    ·exact p
    ·rw [vU p] at h1';cases h1'
   exact ⟨x,by rw [Ut o];exact h1',a⟩
 refine uu ?_ (pm M ac _ _ z N h ι0 ⟨w,[]⟩ ι0 _ w I);rintro e J w' ⟨ex,s',j,g,a,i⟩;have fin:finK P fn.results.toList K .ret s'=some z->∃v,(results fn J.tmps).run P w'=.ok v w'/\∃(pan:Bool) (u:V) (s:St) (ι:Inj),K pan u s=some z/\(∀b q,ι0 b=some q->ι b=some q\/s.rb<=b)/\(∀b q,ι b=some (some q)->(∃k,ι0 b=some (some k)/\k.r=q.r)\/w.heap.size<=q.r)/\
   WR ι s.H s.nb w'/\(∀b q,ι b=some (some q)->q.fz=true->b<s.ro)/\Fr (roI ι0 s.ro) w w'/\RetR ι { val:=u,pan:=pan } (.returned v):=by
  intro i;simp only [finK] at i;obtain ⟨v,x,G,F,Q⟩:=zl (fn:=fn) (c:=λv=>K false v s') a i;exact ⟨x,Q,false,v,s',j,G,a.ext,a.new,a.mem,a.fz,a.fr,rfl,F⟩
 cases ex with
 | normal=>
  simp only [ExR] at g;subst g;exact ⟨a.defers,fin i⟩
 | ret=>
  simp only [ExR] at g;subst g;exact ⟨a.defers,fin i⟩
 | exit id=>simp [finK] at i
 | pan v=>
  obtain ⟨x,rfl,hx⟩:=g;exact ⟨a.defers,true,v,s',j,i,a.ext,a.new,a.mem,a.fz,a.fr,rfl,x,rfl,hx⟩
mutual
def V.flat:V->Bool
 | .b _ | .i _ _ | .s _ | .pn | .sn | .nf | .ni | .ai _ _ _ | .unk=>true
 | .p _ _ | .sl _ _ _ _ | .pr _ _ _ _ | .ws _ | .rs _ _ _ _ _ | .mp _=>false
 | .fn _ l | .ag l | .tp l=>V.flats l
 | .it _ v=>V.flat v
def V.flats:List V->Bool
 | []=>true
 | v::l=>V.flat v&&V.flats l
end
mutual
theorem VR.flat {ι J:Inj}:∀(v:V) (x:Value),V.flat v=true->VR ι v x->VR J v x
 | .b _,_,_,hx | .i _ _,_,_,hx | .s _,_,_,hx | .pn,_,_,hx | .sn,_,_,hx | .nf,_,_,hx | .ni,_,_,hx | .ai _ _ _,_,_,hx | .unk,_,_,hx=>by simpa only [VR] using hx
 | .p b o,x,C,hx=>by simp [V.flat] at C
 | .mp b,x,C,hx=>by simp [V.flat] at C
 | .pr z b j o,x,C,hx=>by simp [V.flat] at C
 | .ws b,x,C,hx=>by simp [V.flat] at C
 | .rs z b j n _,x,C,hx=>by simp [V.flat] at C
 | .sl b o len cap,x,C,hx=>by simp [V.flat] at C
 | .fn f cap,x,C,hx=>by
  simp only [V.flat] at C;simp only [VR] at hx ⊢;obtain ⟨G,F,E⟩:=hx;exact ⟨G,F,VRs.flat _ _ C E⟩
 | .it t v,x,C,hx=>by
  simp only [V.flat] at C;simp only [VR] at hx ⊢;obtain ⟨y,F,E⟩:=hx;exact ⟨y,F,VR.flat _ _ C E⟩
 | .ag l,x,C,hx=>by
  simp only [V.flat] at C;simp only [VR] at hx ⊢;obtain ⟨G,F,E⟩:=hx;exact ⟨G,F,VRs.flat _ _ C E⟩
 | .tp l,x,C,hx=>by
  simp only [V.flat] at C;simp only [VR] at hx ⊢;obtain ⟨G,F,E⟩:=hx;exact ⟨G,F,VRs.flat _ _ C E⟩
theorem VRs.flat {ι E:Inj}:∀(l:List V) (F:List Value),V.flats l=true->VRs ι l F->VRs E l F
 | [],_,_,hx=>by simpa [VRs] using hx
 | v::l,F,C,hx=>by
  simp only [V.flats,aD] at C;simp only [VRs] at hx ⊢;obtain ⟨y,Q,J,G,O⟩:=hx;exact ⟨y,Q,J,VR.flat _ _ C.1 G,VRs.flat _ _ C.2 O⟩
end
def jI:Inj:=λ_=>none
def nZ (P:Program) (f:Nat) (args:List V) (v:V):Prop:=
 ∀(w:World) (a:Array Value),GL jI w->VRs jI args a.toList->Calls P f a w λe w'=>∃x,e=.returned x/\VR jI v x/\Fr jI w w'
theorem Ov {ro:Nat} {w w':World} (h:Fr (roI jI ro) w w'):Fr jI w w':=by
 have:roI jI ro=jI:=by
  funext b;unfold roI jI;cases Nat.blt b ro<;>rfl
 rwa [this] at h
theorem WR.nothing (w:World):WR jI [] 0 w:=⟨λ_ _ _ _ h=>(by cases h),λ_ _ h=>(by cases h),λ_ _ h=>(by cases h),λ_ _ h=>(by cases h)⟩
theorem nZ.call {f:Nat} {args:List V} {v:V} (h:nZ P f args v) (O:V.flats args=true) (H:List (Nat×Blk)) (fr:Nat):HA P f args H fr { val:=v }:=by
 intro ι nb w W E Q _ _ hx;refine (h w W (Q.mono λb q h=>by cases h) (VRs.flat _ _ O hx)).mono λe w' ⟨x,F,J,C⟩=>?_;subst F;have X:=C.size;refine ⟨ι,λ_ _ _=>rfl,λb q F=>by simp [isIn] at F,λb q F J=>by simp at J;omega,λ_ _ h _=>h,?_,?_,rfl,VR.mono (λ_ _ h=>by cases h) _ _ J⟩
 ·simp only [dW,uo];refine ⟨E.inj,λb r G=>?_,λb r G=>?_,λb blk Z Y=>?_⟩
  ·have:=E.low b r G;omega
  ·have:=E.dom b r G;omega
  ·exact (E.blk b blk Z Y).map rfl (λq U=>C.blk q.r (E.dom b q U) (λ_ _ h=>by cases h)) (λ_ _ x=>x) (λ_ x=>x)
 ·refine ⟨C.os,C.tape,C.output,C.size,λk hk _=>C.blk k hk (λ_ _ h=>by cases h)⟩
end Go.Abs
