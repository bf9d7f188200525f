
/- The interpreter is sound: regions, code, functions.
   Conditions: none; generic over the program. -/
import Derived.Test.YthemneooekobkabGreatDoorAbsCut
import Derived.LoopN
import Derived.Scope
set_option linter.unusedSimpArgs false
set_option linter.unusedVariables false
namespace Go.Abs
variable {P:Program}
theorem wR {α:Type} {E:List Ent} (i:∀x∈E,fH P x) {n:Nat} {ι0:Inj} {w0:Base} {ops:List Oper} {k:Ex->St->Option α} {z:α}:
  ∀(l:List Oper) (s:St) (ι:Inj) (a:Act) (w:World),Inv n ι0 w0 ι s a w->Ds P E n ops l s k=some z->
   wpList P ops.toArray (Post n ι0 w0 λex s'=>k ex s'=some z) l a w
 | [],s,ι,a,w,j,h=>⟨.normal,s,ι,rfl,j,h⟩
 | o::l,s,ι,a,w,j,h=>by
  simp only [Ds] at h;obtain ⟨f,s',h,e,m,_⟩:=La j h;unfold wpList;cases f
  ·simp only at h;rw [m];simp only [br,aB];split at h
   ·rename_i t;exact wR i l _ ι _ w (e.skip t) h
   ·cases h
  ·simp only at h;rw [m];simp only [aJ];exact .inl (Bd i e (λb q=>e.fresh b q) (aW _) h (λs' d p w' g c=>wR i l s' d p w' c g)
    (λv s' d x p w' g r c=>⟨.pan v,s',d,⟨x,rfl,r⟩,c,g⟩))
theorem o9 {α:Type} {E:List Ent} (p:∀x∈E,fH P x) {L:List Sub} {n:Nat}:∀(c:AC) (s:St) (k:Ex->St->Option α) (z:α),jV P n L c->run P E L n c s k=some z->
  SemC P n c.code s λex s'=>k ex s'=some z
 | .skip,s,k,z,_,h=>λι0 w0 ι a w j=>wp_skip ⟨.normal,s,ι,rfl,j,h⟩
 | .ret,s,k,z,_,h=>λι0 w0 ι a w j=>wp_ret ⟨.ret,s,ι,rfl,j,h⟩
 | .exit id,s,k,z,_,h=>λι0 w0 ι a w j=>wp_exit ⟨.exit id,s,ι,rfl,j,h⟩
 | .seq x y,s,k,z,hs,h=>by
  intro ι0 w0 ι a w j;simp only [jV] at hs;simp only [run] at h;refine wp_seq (wp_mono (o9 p x s _ z hs.1 h ι0 w0 ι a w j) ?_);rintro e r w' ⟨ex,s',d,f,o,g⟩;cases ex with
  | normal=>simp only [ExR] at f;subst f;exact o9 p y s' k z hs.2 g ι0 w0 d r w' o
  | exit id=>simp only [ExR] at f;subst f;exact ⟨.exit id,s',d,rfl,o,g⟩
  | ret=>simp only [ExR] at f;subst f;exact ⟨.ret,s',d,rfl,o,g⟩
  | pan v=>obtain ⟨x,rfl,hx⟩:=f;exact ⟨.pan v,s',d,⟨x,rfl,hx⟩,o,g⟩
 | .cond c x y,s,k,z,hs,h=>by
  intro ι0 w0 ι a w j;simp only [jV] at hs;simp only [run] at h;split at h
  ·rename_i b q;have t:=bv j.tmps q;simp only [VR] at t;cases b
   ·exact wp_cond_false t (o9 p y s k z hs.2 h ι0 w0 ι a w j)
   ·exact wp_cond_true t (o9 p x s k z hs.1 h ι0 w0 ι a w j)
  ·cases h
 | .block id x,s,k,z,hs,h=>by
  intro ι0 w0 ι a w j;simp only [jV] at hs;simp only [run] at h;refine wp_block (wp_mono (o9 p x s _ z hs h ι0 w0 ι a w j) ?_);rintro e r w' ⟨ex,s',d,f,o,g⟩;cases ex with
  | normal=>simp only [ExR] at f;subst f;exact ⟨.normal,s',d,rfl,o,g⟩
  | exit i=>
   simp only [ExR] at f;subst f;simp only [Exit.inBlock];cases q:Nat.beq i id with
   | true=>
    simp only [q] at g;rw [ae (bK q)];exact ⟨.normal,s',d,rfl,o,g⟩
   | false=>
    simp only [q] at g;rw [ab (by rintro rfl;simp at q)];exact ⟨.exit i,s',d,rfl,o,g⟩
  | ret=>simp only [ExR] at f;subst f;exact ⟨.ret,s',d,rfl,o,g⟩
  | pan v=>obtain ⟨x,rfl,hx⟩:=f;exact ⟨.pan v,s',d,⟨x,rfl,hx⟩,o,g⟩
 | .reg id ops,s,k,z,_,h=>λι0 w0 ι a w j=>wp_region_lit (wR p ops s ι a w j h)
 | .draw id ops,s,k,z,_,h=>Ql p h id
 | .sub m c,s,k,z,hs,h=>by
  simp only [jV] at hs;simp only [run] at h;exact hs α s k z h
 | .loop c,s,k,z,hs,h=>by
  simp only [jV] at hs;simp only [run] at h;intro ι0 w0 ι a w j;refine wp_loop_rounds 12 ?_;generalize 12=m at h
  induction m generalizing s ι a w with
  | zero=>simp [Qi] at h
  | succ m ih=>
   rw [rounds_succ];simp only [Qi] at h;refine tO ?_ (o9 p c s _ z hs h ι0 w0 ι a w j);rintro e r w' ⟨ex,s',d,f,o,g⟩;cases ex with
   | normal=>simp only [ExR] at f;subst f;exact ih s' d r w' (by assumption) (by assumption)
   | exit id=>simp only [ExR] at f;subst f;exact ⟨.exit id,s',d,rfl,o,g⟩
   | ret=>simp only [ExR] at f;subst f;exact ⟨.ret,s',d,rfl,o,g⟩
   | pan v=>obtain ⟨x,rfl,hx⟩:=f;exact ⟨.pan v,s',d,⟨x,rfl,hx⟩,o,g⟩
 | .scope c,s,k,z,hs,h=>by
  simp only [jV] at hs;simp only [run] at h;intro ι0 w0 ι a w j;refine wp_scope_straight (tO ?_ (o9 p c s _ z hs h ι0 w0 ι a w j));rintro e r w' ⟨ex,s',d,f,o,g⟩;cases ex with
  | normal=>simp only [ExR] at f;subst f;exact ⟨.normal,s',d,rfl,o,g⟩
  | exit id=>simp only [ExR] at f;subst f;exact ⟨.exit id,s',d,rfl,o,g⟩
  | ret=>simp only [ExR] at f;subst f;exact ⟨.ret,s',d,rfl,o,g⟩
  | pan v=>obtain ⟨x,rfl,hx⟩:=f;exact ⟨.pan v,s',d,⟨x,rfl,hx⟩,o,g⟩
 | .label l,s,k,z,_,h=>λι0 w0 ι a w j=>wp_label ⟨.normal,s,ι,rfl,j,h⟩
 | .bad c,s,k,z,_,h=>by simp [run] at h
def sW:List V->Nat->List (Nat×Option V)
 | [],_=>[]
 | v::l,j=>(j,some v)::sW l (j+1)
def retK {α:Type} (P:Program):List ResultVar->St->(List V->Option α)->Option α
 | [],_,c=>c []
 | .tmp t::r,s,c=>match look s.T t with
  | some (some v)=>retK P r s λl=>c (v::l)
  | _=>none
 | .cell t a::r,s,c=>match look s.T t with
  | some (some (.p b o))=>match look s.H b with
   | some blk=>yZ P a blk o λv=>retK P r s λl=>c (v::l)
   | none=>none
  | _=>none
def NN:List V->V
 | [v]=>v
 | l=>.tp l
def finK {α:Type} (P:Program) (a:List ResultVar) (K:Bool->V->St->Option α):Ex->St->Option α
 | .normal,s=>retK P a s λl=>K false (NN l) s
 | .ret,s=>retK P a s λl=>K false (NN l) s
 | .pan v,s=>K true v s
 | .exit _,_=>none
theorem sa:∀(l:List V) (j t:Nat),look (sW l j) t=if j<=t then (l[t - j]?).map some else none
 | [],j,t=>by simp [sW,look]
 | v::l,j,t=>by
  simp only [sW,aS,sa l (j+1) t];by_cases h:j=t
  ·subst h;simp
  ·simp only [h,aB];by_cases a:j<=t
   ·rw [ae (by omega),ae a,show t - j=(t - (j+1))+1 by omega];rfl
   ·rw [ab (by omega),ab a]
def O3 (b:Array Value):ResultVar->Sem Value
 | .tmp t=>pure (b.getD t undef)
 | .cell a t=>do loadVar t (<-asAddr (b.getD a undef))
theorem zA (fn:Func) (b:Array Value):results fn b=(do
  let a <-fn.results.mapM (O3 b)
  pure (if h:a.size=1 then a[0] else .tuple a)):=by
 unfold results;congr 2
theorem EL {α:Type} {n:Nat} {ι0 ι:Inj} {w0:Base} {s:St} {a:Act} {w:World} (f:Inv n ι0 w0 ι s a w):∀(e:List ResultVar) (c:List V->Option α) (z:α),retK P e s c=some z->
  ∃l d,c l=some z/\VRs ι l d/\(e.mapM (O3 a.tmps)).run P w=.ok d w
 | [],c,z,h=>⟨[],[],h,by simp [VRs],rfl⟩
 | .tmp t::e,c,z,h=>by
  simp only [retK] at h;split at h
  ·rename_i v k;obtain ⟨x,p,g⟩:=f.tmps t v k;obtain ⟨l,d,m,q,j⟩:=EL f e _ z h;refine ⟨v::l,x::d,m,by simp only [VRs];exact ⟨x,d,rfl,g,q⟩,?_⟩;have hx:a.tmps.getD t undef=x:=by rw [ri,p];rfl
   simp only [FC,O3,aw,aD,ay,j,hx]
  ·cases h
 | .cell t D::e,c,z,h=>by
  simp only [retK] at h;split at h
  ·rename_i b o k;obtain ⟨x,p,g⟩:=f.tmps t _ k;split at h
   ·rename_i blk y;obtain ⟨v,X,r,E,C,B,A⟩:=HW f.mem y h;obtain ⟨l,d,m,q,j⟩:=EL f e _ z E;refine ⟨v::l,X::d,m,by simp only [VRs];exact ⟨X,d,rfl,A,q⟩,?_⟩;simp only [VR] at g;obtain ⟨F,u,rfl⟩:=g;rw [C] at u;cases u;have hx:a.tmps.getD t undef=.pointer (some ⟨r.r,o,none⟩):=by rw [ri,p];rfl
    have i:(loadVar D ⟨r.r,o,none⟩).run P w=.ok X w:=by
     simpa only [Instr.loadAt,Instr.sureAddr,aw,aD,ay] using B
    simp only [FC,O3,aw,ay,j,hx,asAddr,aD,i]
   ·cases h
  ·cases h
theorem Qj {ι:Inj} {l:List V} {a:List Value} (h:VRs ι l a):VR ι (NN l) (if h:a.toArray.size=1 then a.toArray[0] else .tuple a.toArray):=by
 have d:=h.length;unfold NN;split
 ·rename_i v;simp only [VRs] at h;obtain ⟨y,e,rfl,b,rfl⟩:=h;simpa using b
 ·rename_i c;have:¬a.toArray.size=1:=by
   intro b;simp only [wU] at b;rw [d] at b
   match l,b with
   | [v],_=>exact c v rfl
  rw [dif_neg this];simp only [VR];exact ⟨_,rfl,by simpa using h⟩
theorem zo {α:Type} {fn:Func} {n:Nat} {ι0 ι:Inj} {w0:Base} {s:St} {a:Act} {w:World} (f:Inv n ι0 w0 ι s a w) {c:V->Option α} {z:α}
  (h:retK P fn.results.toList s (λl=>c (NN l))=some z):∃v x,c v=some z/\VR ι v x/\(results fn a.tmps).run P w=.ok x w:=by
 obtain ⟨l,g,e,b,d⟩:=EL f _ _ _ h;refine ⟨_,_,e,Qj b,?_⟩;rw [zA,QZ];simp only [aw,Sem.run_map,d,ay,aD]
def AK {α:Type} (P:Program) (f:Nat) (args:List V) (H0:List (Nat×Blk)) (nb0 ro:Nat) (K:Bool->V->St->Option α) (z:α):Prop:=
 ∀(ι0:Inj) (w:World) (a:Array Value),WR ι0 H0 nb0 w->(∀b q,ι0 b=some (some q)->q.fz=true->b<ro)->GL (roI ι0 ro) w->VRs ι0 args a.toList->
  Calls P f a w λe w'=>∃(pan:Bool) (v:V) (s:St) (ι:Inj),K pan v s=some z/\(∀b q,ι0 b=some q->ι b=some q\/s.rb<=b)/\(∀b q,ι b=some (some q)->(∃c,ι0 b=some (some c)/\c.r=q.r)\/w.heap.size<=q.r)/\
   WR ι s.H s.nb w'/\(∀b q,ι b=some (some q)->q.fz=true->b<s.ro)/\Fr (roI ι0 s.ro) w w'/\RetR ι { val:=v,pan:=pan } e
theorem NK {α:Type} {E:List Ent} (M:∀x∈E,fH P x) {L:List Sub} {f:Nat} {fn:Func} {c:Code} {ac:AC} (Q:P.funcs[f]?=some fn) (I:fn.body=some c) (hc:ac.code=c)
  (N:jV P fn.ntmps L ac) {args:List V} {H0:List (Nat×Blk)} {nb0 ro rb:Nat} {K:Bool->V->St->Option α} {z:α} (D:Nat.ble args.length fn.ntmps=true)
  (h:run P E L fn.ntmps ac ⟨sW args 0,H0,nb0,nb0,ro,rb⟩ (finK P fn.results.toList K)=some z) (ι0:Inj) (w:World) (d:Array Value) (C:WR ι0 H0 nb0 w) (y:∀b q,ι0 b=some (some q)->q.fz=true->b<ro) (p:GL (roI ι0 ro) w) (hx:VRs ι0 args d.toList):
  Calls P f d w λe w'=>∃(pan:Bool) (v:V) (s:St) (ι:Inj),K pan v s=some z/\(∀b q,ι0 b=some q->ι b=some q\/s.rb<=b)/\(∀b q,ι b=some (some q)->(∃j,ι0 b=some (some j)/\j.r=q.r)\/w.heap.size<=q.r)/\
   WR ι s.H s.nb w'/\(∀b q,ι b=some (some q)->q.fz=true->b<s.ro)/\Fr (roI ι0 s.ro) w w'/\RetR ι { val:=v,pan:=pan } e:=by
 have B:d.size=args.length:=by simpa using hx.length
 have D:=aI D;refine calls_of_wp Q I ?_;rw [<-hc];have G:Inv fn.ntmps ι0 ⟨w,[]⟩ ι0 ⟨sW args 0,H0,nb0,nb0,ro,rb⟩ { tmps:=d++Array.replicate (fn.ntmps - d.size) undef,defers:=[] } w:=by
  refine ⟨by simp;omega,rfl,λt v m=>?_,C,λ_ _ h=>.inl h,λ_ q h=>.inl ⟨q,h,rfl⟩,Fr.refl _ _,λb r h=>C.low b r h,y,p⟩;rw [sa,ae (fU _)] at m;simp only [qm] at m;cases o:args[t]? with
  | none=>simp [o] at m
  | some u=>
   simp only [o,fc,au] at m;subst m;obtain ⟨x,i,a⟩:=hx.get o;have h1':d[t]?=some x:=by simpa using i
   have n:t<d.size:=by
    rcases aG t d.size with A | A
    ·exact A
    ·rw [yj A] at h1';cases h1'
   exact ⟨x,by rw [Sz n];exact h1',a⟩
 refine tO ?_ (o9 M ac _ _ z N h ι0 ⟨w,[]⟩ ι0 _ w G);rintro e J w' ⟨ex,s',l,i,a,g⟩;have k:finK P fn.results.toList K .ret s'=some z->∃v,(results fn J.tmps).run P w'=.ok v w'/\∃(pan:Bool) (u:V) (s:St) (ι:Inj),K pan u s=some z/\(∀b q,ι0 b=some q->ι b=some q\/s.rb<=b)/\(∀b q,ι b=some (some q)->(∃j,ι0 b=some (some j)/\j.r=q.r)\/w.heap.size<=q.r)/\
   WR ι s.H s.nb w'/\(∀b q,ι b=some (some q)->q.fz=true->b<s.ro)/\Fr (roI ι0 s.ro) w w'/\RetR ι { val:=u,pan:=pan } (.returned v):=by
  intro g;simp only [finK] at g;obtain ⟨v,x,O,R,F⟩:=zo (fn:=fn) (c:=λv=>K false v s') a g;exact ⟨x,F,false,v,s',l,O,a.ext,a.new,a.mem,a.fz,a.fr,rfl,R⟩
 cases ex with
 | normal=>
  simp only [ExR] at i;subst i;exact ⟨a.defers,k g⟩
 | ret=>
  simp only [ExR] at i;subst i;exact ⟨a.defers,k g⟩
 | exit id=>simp [finK] at g
 | pan v=>
  obtain ⟨x,rfl,hx⟩:=i;exact ⟨a.defers,true,v,s',l,g,a.ext,a.new,a.mem,a.fz,a.fr,rfl,x,rfl,hx⟩
mutual
def V.flat:V->Bool
 | .b _ | .i _ _ | .s _ | .pn | .sn | .nf | .ni | .ai _ _ _ | .unk=>true
 | .p _ _ | .sl _ _ _ _ | .pr _ _ _ _ | .ws _ | .rs _ _ _ _ _ | .mp _=>false
 | .fn _ l | .ag l | .tp l=>V.flats l
 | .it _ v=>V.flat v
def V.flats:List V->Bool
 | []=>true
 | v::l=>V.flat v&&V.flats l
end
mutual
theorem VR.flat {ι J:Inj}:∀(v:V) (x:Value),V.flat v=true->VR ι v x->VR J v x
 | .b _,_,_,hx | .i _ _,_,_,hx | .s _,_,_,hx | .pn,_,_,hx | .sn,_,_,hx | .nf,_,_,hx | .ni,_,_,hx | .ai _ _ _,_,_,hx | .unk,_,_,hx=>by simpa only [VR] using hx
 | .p b o,x,C,hx=>by simp [V.flat] at C
 | .mp b,x,C,hx=>by simp [V.flat] at C
 | .pr z b j o,x,C,hx=>by simp [V.flat] at C
 | .ws b,x,C,hx=>by simp [V.flat] at C
 | .rs z b j n _,x,C,hx=>by simp [V.flat] at C
 | .sl b o len cap,x,C,hx=>by simp [V.flat] at C
 | .fn f cap,x,C,hx=>by
  simp only [V.flat] at C;simp only [VR] at hx ⊢;obtain ⟨G,F,E⟩:=hx;exact ⟨G,F,VRs.flat _ _ C E⟩
 | .it t v,x,C,hx=>by
  simp only [V.flat] at C;simp only [VR] at hx ⊢;obtain ⟨y,F,E⟩:=hx;exact ⟨y,F,VR.flat _ _ C E⟩
 | .ag l,x,C,hx=>by
  simp only [V.flat] at C;simp only [VR] at hx ⊢;obtain ⟨G,F,E⟩:=hx;exact ⟨G,F,VRs.flat _ _ C E⟩
 | .tp l,x,C,hx=>by
  simp only [V.flat] at C;simp only [VR] at hx ⊢;obtain ⟨G,F,E⟩:=hx;exact ⟨G,F,VRs.flat _ _ C E⟩
theorem VRs.flat {ι C:Inj}:∀(l:List V) (F:List Value),V.flats l=true->VRs ι l F->VRs C l F
 | [],_,_,hx=>by simpa [VRs] using hx
 | v::l,F,E,hx=>by
  simp only [V.flats,aA] at E;simp only [VRs] at hx ⊢;obtain ⟨y,G,Q,J,O⟩:=hx;exact ⟨y,G,Q,VR.flat _ _ E.1 J,VRs.flat _ _ E.2 O⟩
end
def ip:Inj:=λ_=>none
def kY (P:Program) (f:Nat) (args:List V) (v:V):Prop:=
 ∀(w:World) (a:Array Value),GL ip w->VRs ip args a.toList->Calls P f a w λe w'=>∃x,e=.returned x/\VR ip v x/\Fr ip w w'
theorem Ll {ro:Nat} {w w':World} (h:Fr (roI ip ro) w w'):Fr ip w w':=by
 have:roI ip ro=ip:=by
  funext b;unfold roI ip;cases Nat.blt b ro<;>rfl
 rwa [this] at h
theorem WR.nothing (w:World):WR ip [] 0 w:=⟨λ_ _ _ _ h=>(by cases h),λ_ _ h=>(by cases h),λ_ _ h=>(by cases h),λ_ _ h=>(by cases h)⟩
theorem kY.call {f:Nat} {args:List V} {v:V} (h:kY P f args v) (Q:V.flats args=true) (H:List (Nat×Blk)) (fr:Nat):Hw P f args H fr { val:=v }:=by
 intro ι nb w X E hg _ _ hx;refine (h w X (hg.mono λb q h=>by cases h) (VRs.flat _ _ Q hx)).mono λe w' ⟨x,F,J,C⟩=>?_;subst F;have U:=C.size;refine ⟨ι,λ_ _ _=>rfl,λb q F=>by simp [isIn] at F,λb q F J=>by simp at J;omega,λ_ _ h _=>h,?_,?_,rfl,VR.mono (λ_ _ h=>by cases h) _ _ J⟩
 ·simp only [dW,ul];refine ⟨E.inj,λb r G=>?_,λb r G=>?_,λb blk Z Y=>?_⟩
  ·have:=E.low b r G;omega
  ·have:=E.dom b r G;omega
  ·exact (E.blk b blk Z Y).map rfl (λq W=>C.blk q.r (E.dom b q W) (λ_ _ h=>by cases h)) (λ_ _ x=>x) (λ_ x=>x)
 ·refine ⟨C.os,C.tape,C.output,C.size,λk O _=>C.blk k O (λ_ _ h=>by cases h)⟩
end Go.Abs
