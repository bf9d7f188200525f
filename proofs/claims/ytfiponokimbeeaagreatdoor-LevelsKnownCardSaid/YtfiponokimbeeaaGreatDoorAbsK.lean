
/- The interpreter is sound: regions, code, functions.
   Conditions: none; generic over the program. -/
import Derived.Test.YtfiponokimbeeaaGreatDoorAbsCut
import Derived.LoopN
import Derived.Scope
set_option linter.unusedSimpArgs false
set_option linter.unusedVariables false
namespace Go.Abs
variable {P:Program}
theorem wA {α:Type} {E:List Ent} (j:∀x∈E,fp P x) {n:Nat} {ι0:Inj} {w0:Base} {ops:List Oper} {k:Ex->St->Option α} {z:α}:
  ∀(l:List Oper) (s:St) (ι:Inj) (a:Act) (w:World),Inv n ι0 w0 ι s a w->Bq P E n ops l s k=some z->
   wpList P ops.toArray (Post n ι0 w0 λex s'=>k ex s'=some z) l a w
 | [],s,ι,a,w,g,h=>⟨.normal,s,ι,rfl,g,h⟩
 | o::l,s,ι,a,w,g,h=>by
  simp only [Bq] at h;obtain ⟨f,s',h,e,p,_⟩:=KX g h;unfold wpList;cases f
  ·simp only at h;rw [p];simp only [bA,aC];split at h
   ·rename_i q;exact wA j l _ ι _ w (e.skip q) h
   ·cases h
  ·simp only at h;rw [p];simp only [aK];exact .inl (Az j e (λb r=>e.fresh b r) (aP _) h (λs' d m w' i c=>wA j l s' d m w' c i)
    (λv s' d x m w' i t c=>⟨.pan v,s',d,⟨x,rfl,t⟩,c,i⟩))
theorem nW {α:Type} {E:List Ent} (p:∀x∈E,fp P x) {L:List Sub} {n:Nat}:∀(c:AC) (s:St) (k:Ex->St->Option α) (z:α),i6 P n L c->run P E L n c s k=some z->
  SemC P n c.code s λex s'=>k ex s'=some z
 | .skip,s,k,z,_,h=>λι0 w0 ι a w g=>wp_skip ⟨.normal,s,ι,rfl,g,h⟩
 | .ret,s,k,z,_,h=>λι0 w0 ι a w g=>wp_ret ⟨.ret,s,ι,rfl,g,h⟩
 | .exit id,s,k,z,_,h=>λι0 w0 ι a w g=>wp_exit ⟨.exit id,s,ι,rfl,g,h⟩
 | .seq x y,s,k,z,hs,h=>by
  intro ι0 w0 ι a w g;simp only [i6] at hs;simp only [run] at h;refine wp_seq (wp_mono (nW p x s _ z hs.1 h ι0 w0 ι a w g) ?_);rintro e r w' ⟨ex,s',d,f,o,j⟩;cases ex with
  | normal=>simp only [ExR] at f;subst f;exact nW p y s' k z hs.2 j ι0 w0 d r w' o
  | exit id=>simp only [ExR] at f;subst f;exact ⟨.exit id,s',d,rfl,o,j⟩
  | ret=>simp only [ExR] at f;subst f;exact ⟨.ret,s',d,rfl,o,j⟩
  | pan v=>obtain ⟨x,rfl,hx⟩:=f;exact ⟨.pan v,s',d,⟨x,rfl,hx⟩,o,j⟩
 | .cond c x y,s,k,z,hs,h=>by
  intro ι0 w0 ι a w g;simp only [i6] at hs;simp only [run] at h;split at h
  ·rename_i b q;have t:=bg g.tmps q;simp only [VR] at t;cases b
   ·exact wp_cond_false t (nW p y s k z hs.2 h ι0 w0 ι a w g)
   ·exact wp_cond_true t (nW p x s k z hs.1 h ι0 w0 ι a w g)
  ·cases h
 | .block id x,s,k,z,hs,h=>by
  intro ι0 w0 ι a w g;simp only [i6] at hs;simp only [run] at h;refine wp_block (wp_mono (nW p x s _ z hs h ι0 w0 ι a w g) ?_);rintro e r w' ⟨ex,s',d,f,o,j⟩;cases ex with
  | normal=>simp only [ExR] at f;subst f;exact ⟨.normal,s',d,rfl,o,j⟩
  | exit i=>
   simp only [ExR] at f;subst f;simp only [Exit.inBlock];cases q:Nat.beq i id with
   | true=>
    simp only [q] at j;rw [ae (bB q)];exact ⟨.normal,s',d,rfl,o,j⟩
   | false=>
    simp only [q] at j;rw [ab (by rintro rfl;simp at q)];exact ⟨.exit i,s',d,rfl,o,j⟩
  | ret=>simp only [ExR] at f;subst f;exact ⟨.ret,s',d,rfl,o,j⟩
  | pan v=>obtain ⟨x,rfl,hx⟩:=f;exact ⟨.pan v,s',d,⟨x,rfl,hx⟩,o,j⟩
 | .reg id ops,s,k,z,_,h=>λι0 w0 ι a w g=>wp_region_lit (wA p ops s ι a w g h)
 | .draw id ops,s,k,z,_,h=>MO p h id
 | .sub m c,s,k,z,hs,h=>by
  simp only [i6] at hs;simp only [run] at h;exact hs α s k z h
 | .loop c,s,k,z,hs,h=>by
  simp only [i6] at hs;simp only [run] at h;intro ι0 w0 ι a w g;refine wp_loop_rounds 12 ?_;generalize 12=m at h
  induction m generalizing s ι a w with
  | zero=>simp [LV] at h
  | succ m ih=>
   rw [rounds_succ];simp only [LV] at h;refine sI ?_ (nW p c s _ z hs h ι0 w0 ι a w g);rintro e r w' ⟨ex,s',d,f,o,j⟩;cases ex with
   | normal=>simp only [ExR] at f;subst f;exact ih s' d r w' (by assumption) (by assumption)
   | exit id=>simp only [ExR] at f;subst f;exact ⟨.exit id,s',d,rfl,o,j⟩
   | ret=>simp only [ExR] at f;subst f;exact ⟨.ret,s',d,rfl,o,j⟩
   | pan v=>obtain ⟨x,rfl,hx⟩:=f;exact ⟨.pan v,s',d,⟨x,rfl,hx⟩,o,j⟩
 | .scope c,s,k,z,hs,h=>by
  simp only [i6] at hs;simp only [run] at h;intro ι0 w0 ι a w g;refine wp_scope_straight (sI ?_ (nW p c s _ z hs h ι0 w0 ι a w g));rintro e r w' ⟨ex,s',d,f,o,j⟩;cases ex with
  | normal=>simp only [ExR] at f;subst f;exact ⟨.normal,s',d,rfl,o,j⟩
  | exit id=>simp only [ExR] at f;subst f;exact ⟨.exit id,s',d,rfl,o,j⟩
  | ret=>simp only [ExR] at f;subst f;exact ⟨.ret,s',d,rfl,o,j⟩
  | pan v=>obtain ⟨x,rfl,hx⟩:=f;exact ⟨.pan v,s',d,⟨x,rfl,hx⟩,o,j⟩
 | .label l,s,k,z,_,h=>λι0 w0 ι a w g=>wp_label ⟨.normal,s,ι,rfl,g,h⟩
 | .bad c,s,k,z,_,h=>by simp [run] at h
def rU:List V->Nat->List (Nat×Option V)
 | [],_=>[]
 | v::l,j=>(j,some v)::rU l (j+1)
def retK {α:Type} (P:Program):List ResultVar->St->(List V->Option α)->Option α
 | [],_,c=>c []
 | .tmp t::r,s,c=>match look s.T t with
  | some (some v)=>retK P r s λl=>c (v::l)
  | _=>none
 | .cell t a::r,s,c=>match look s.T t with
  | some (some (.p b o))=>match look s.H b with
   | some blk=>xK P a blk o λv=>retK P r s λl=>c (v::l)
   | none=>none
  | _=>none
def Je:List V->V
 | [v]=>v
 | l=>.tp l
def finK {α:Type} (P:Program) (a:List ResultVar) (K:Bool->V->St->Option α):Ex->St->Option α
 | .normal,s=>retK P a s λl=>K false (Je l) s
 | .ret,s=>retK P a s λl=>K false (Je l) s
 | .pan v,s=>K true v s
 | .exit _,_=>none
theorem rt:∀(l:List V) (j t:Nat),look (rU l j) t=if j<=t then (l[t - j]?).map some else none
 | [],j,t=>by simp [rU,look]
 | v::l,j,t=>by
  simp only [rU,aR,rt l (j+1) t];by_cases h:j=t
  ·subst h;simp
  ·simp only [h,aC];by_cases a:j<=t
   ·rw [ae (by omega),ae a,show t - j=(t - (j+1))+1 by omega];rfl
   ·rw [ab (by omega),ab a]
def NU (b:Array Value):ResultVar->Sem Value
 | .tmp t=>pure (b.getD t undef)
 | .cell a t=>do loadVar t (<-asAddr (b.getD a undef))
theorem yB (fn:Func) (b:Array Value):results fn b=(do
  let a <-fn.results.mapM (NU b)
  pure (if h:a.size=1 then a[0] else .tuple a)):=by
 unfold results;congr 2
theorem D4 {α:Type} {n:Nat} {ι0 ι:Inj} {w0:Base} {s:St} {a:Act} {w:World} (f:Inv n ι0 w0 ι s a w):∀(e:List ResultVar) (c:List V->Option α) (z:α),retK P e s c=some z->
  ∃l d,c l=some z/\VRs ι l d/\(e.mapM (NU a.tmps)).run P w=.ok d w
 | [],c,z,h=>⟨[],[],h,by simp [VRs],rfl⟩
 | .tmp t::e,c,z,h=>by
  simp only [retK] at h;split at h
  ·rename_i v q;obtain ⟨x,j,g⟩:=f.tmps t v q;obtain ⟨l,d,p,m,k⟩:=D4 f e _ z h;refine ⟨v::l,x::d,p,by simp only [VRs];exact ⟨x,d,rfl,g,m⟩,?_⟩;have hx:a.tmps.getD t undef=x:=by rw [qN,j];rfl
   simp only [Ei,NU,aw,aB,ay,k,hx]
  ·cases h
 | .cell t y::e,c,z,h=>by
  simp only [retK] at h;split at h
  ·rename_i b o q;obtain ⟨x,j,g⟩:=f.tmps t _ q;split at h
   ·rename_i blk C;obtain ⟨v,X,r,A,D,B,E⟩:=FW f.mem C h;obtain ⟨l,d,p,m,k⟩:=D4 f e _ z A;refine ⟨v::l,X::d,p,by simp only [VRs];exact ⟨X,d,rfl,E,m⟩,?_⟩;simp only [VR] at g;obtain ⟨F,u,rfl⟩:=g;rw [D] at u;cases u;have hx:a.tmps.getD t undef=.pointer (some ⟨r.r,o,none⟩):=by rw [qN,j];rfl
    have i:(loadVar y ⟨r.r,o,none⟩).run P w=.ok X w:=by
     simpa only [Instr.loadAt,Instr.sureAddr,aw,aB,ay] using B
    simp only [Ei,NU,aw,ay,k,hx,asAddr,aB,i]
   ·cases h
  ·cases h
theorem NB {ι:Inj} {l:List V} {b:List Value} (h:VRs ι l b):VR ι (Je l) (if h:b.toArray.size=1 then b.toArray[0] else .tuple b.toArray):=by
 have c:=h.length;unfold Je;split
 ·rename_i v;simp only [VRs] at h;obtain ⟨y,e,rfl,a,rfl⟩:=h;simpa using a
 ·rename_i d;have:¬b.toArray.size=1:=by
   intro a;simp only [xc] at a;rw [c] at a
   match l,a with
   | [v],_=>exact d v rfl
  rw [dif_neg this];simp only [VR];exact ⟨_,rfl,by simpa using h⟩
theorem xU {α:Type} {fn:Func} {n:Nat} {ι0 ι:Inj} {w0:Base} {s:St} {a:Act} {w:World} (d:Inv n ι0 w0 ι s a w) {c:V->Option α} {z:α}
  (h:retK P fn.results.toList s (λl=>c (Je l))=some z):∃v x,c v=some z/\VR ι v x/\(results fn a.tmps).run P w=.ok x w:=by
 obtain ⟨l,g,b,e,f⟩:=D4 d _ _ _ h;refine ⟨_,_,b,NB e,?_⟩;rw [yB,OH];simp only [aw,Sem.run_map,f,ay,aB]
def zg {α:Type} (P:Program) (f:Nat) (args:List V) (H0:List (Nat×Blk)) (nb0 ro:Nat) (K:Bool->V->St->Option α) (z:α):Prop:=
 ∀(ι0:Inj) (w:World) (a:Array Value),WR ι0 H0 nb0 w->(∀b q,ι0 b=some (some q)->q.fz=true->b<ro)->GL (roI ι0 ro) w->VRs ι0 args a.toList->
  Calls P f a w λe w'=>∃(pan:Bool) (v:V) (s:St) (ι:Inj),K pan v s=some z/\(∀b q,ι0 b=some q->ι b=some q\/s.rb<=b)/\(∀b q,ι b=some (some q)->(∃c,ι0 b=some (some c)/\c.r=q.r)\/w.heap.size<=q.r)/\
   WR ι s.H s.nb w'/\(∀b q,ι b=some (some q)->q.fz=true->b<s.ro)/\Fr (roI ι0 s.ro) w w'/\RetR ι { val:=v,pan:=pan } e
theorem JU {α:Type} {E:List Ent} (Q:∀x∈E,fp P x) {L:List Sub} {f:Nat} {fn:Func} {c:Code} {ac:AC} (J:P.funcs[f]?=some fn) (O:fn.body=some c) (hc:ac.code=c)
  (F:i6 P fn.ntmps L ac) {args:List V} {H0:List (Nat×Blk)} {nb0 ro rb:Nat} {K:Bool->V->St->Option α} {z:α} (B:Nat.ble args.length fn.ntmps=true)
  (h:run P E L fn.ntmps ac ⟨rU args 0,H0,nb0,nb0,ro,rb⟩ (finK P fn.results.toList K)=some z) (ι0:Inj) (w:World) (d:Array Value) (A:WR ι0 H0 nb0 w) (m:∀b q,ι0 b=some (some q)->q.fz=true->b<ro) (o:GL (roI ι0 ro) w) (hx:VRs ι0 args d.toList):
  Calls P f d w λe w'=>∃(pan:Bool) (v:V) (s:St) (ι:Inj),K pan v s=some z/\(∀b q,ι0 b=some q->ι b=some q\/s.rb<=b)/\(∀b q,ι b=some (some q)->(∃j,ι0 b=some (some j)/\j.r=q.r)\/w.heap.size<=q.r)/\
   WR ι s.H s.nb w'/\(∀b q,ι b=some (some q)->q.fz=true->b<s.ro)/\Fr (roI ι0 s.ro) w w'/\RetR ι { val:=v,pan:=pan } e:=by
 have C:d.size=args.length:=by simpa using hx.length
 have B:=aE B;refine calls_of_wp J O ?_;rw [<-hc];have G:Inv fn.ntmps ι0 ⟨w,[]⟩ ι0 ⟨rU args 0,H0,nb0,nb0,ro,rb⟩ { tmps:=d++Array.replicate (fn.ntmps - d.size) undef,defers:=[] } w:=by
  refine ⟨by simp;omega,rfl,λt v k=>?_,A,λ_ _ h=>.inl h,λ_ q h=>.inl ⟨q,h,rfl⟩,Fr.refl _ _,λb r h=>A.low b r h,m,o⟩;rw [rt,ae (jh _)] at k;simp only [rZ] at k;cases p:args[t]? with
  | none=>simp [p] at k
  | some u=>
   simp only [p,eo,ak] at k;subst k;obtain ⟨x,i,a⟩:=hx.get p;have h1':d[t]?=some x:=by simpa using i
   have y:t<d.size:=by
    rcases aF t d.size with n | n
    ·exact n
    ·rw [vN n] at h1';cases h1'
   exact ⟨x,by rw [Qu y];exact h1',a⟩
 refine sI ?_ (nW Q ac _ _ z F h ι0 ⟨w,[]⟩ ι0 _ w G);rintro e M w' ⟨ex,s',l,i,a,g⟩;have fin:finK P fn.results.toList K .ret s'=some z->∃v,(results fn M.tmps).run P w'=.ok v w'/\∃(pan:Bool) (u:V) (s:St) (ι:Inj),K pan u s=some z/\(∀b q,ι0 b=some q->ι b=some q\/s.rb<=b)/\(∀b q,ι b=some (some q)->(∃j,ι0 b=some (some j)/\j.r=q.r)\/w.heap.size<=q.r)/\
   WR ι s.H s.nb w'/\(∀b q,ι b=some (some q)->q.fz=true->b<s.ro)/\Fr (roI ι0 s.ro) w w'/\RetR ι { val:=u,pan:=pan } (.returned v):=by
  intro g;simp only [finK] at g;obtain ⟨v,x,D,I,N⟩:=xU (fn:=fn) (c:=λv=>K false v s') a g;exact ⟨x,N,false,v,s',l,D,a.ext,a.new,a.mem,a.fz,a.fr,rfl,I⟩
 cases ex with
 | normal=>
  simp only [ExR] at i;subst i;exact ⟨a.defers,fin g⟩
 | ret=>
  simp only [ExR] at i;subst i;exact ⟨a.defers,fin g⟩
 | exit id=>simp [finK] at g
 | pan v=>
  obtain ⟨x,rfl,hx⟩:=i;exact ⟨a.defers,true,v,s',l,g,a.ext,a.new,a.mem,a.fz,a.fr,rfl,x,rfl,hx⟩
mutual
def V.flat:V->Bool
 | .b _ | .i _ _ | .s _ | .pn | .sn | .nf | .ni | .ai _ _ _ | .unk=>true
 | .p _ _ | .sl _ _ _ _ | .pr _ _ _ _ | .ws _ | .rs _ _ _ _ _ | .mp _=>false
 | .fn _ l | .ag l | .tp l=>V.flats l
 | .it _ v=>V.flat v
def V.flats:List V->Bool
 | []=>true
 | v::l=>V.flat v&&V.flats l
end
mutual
theorem VR.flat {ι J:Inj}:∀(v:V) (x:Value),V.flat v=true->VR ι v x->VR J v x
 | .b _,_,_,hx | .i _ _,_,_,hx | .s _,_,_,hx | .pn,_,_,hx | .sn,_,_,hx | .nf,_,_,hx | .ni,_,_,hx | .ai _ _ _,_,_,hx | .unk,_,_,hx=>by simpa only [VR] using hx
 | .p b o,x,C,hx=>by simp [V.flat] at C
 | .mp b,x,C,hx=>by simp [V.flat] at C
 | .pr z b j o,x,C,hx=>by simp [V.flat] at C
 | .ws b,x,C,hx=>by simp [V.flat] at C
 | .rs z b j n _,x,C,hx=>by simp [V.flat] at C
 | .sl b o len cap,x,C,hx=>by simp [V.flat] at C
 | .fn f cap,x,C,hx=>by
  simp only [V.flat] at C;simp only [VR] at hx ⊢;obtain ⟨G,E,F⟩:=hx;exact ⟨G,E,VRs.flat _ _ C F⟩
 | .it t v,x,C,hx=>by
  simp only [V.flat] at C;simp only [VR] at hx ⊢;obtain ⟨y,E,F⟩:=hx;exact ⟨y,E,VR.flat _ _ C F⟩
 | .ag l,x,C,hx=>by
  simp only [V.flat] at C;simp only [VR] at hx ⊢;obtain ⟨G,E,F⟩:=hx;exact ⟨G,E,VRs.flat _ _ C F⟩
 | .tp l,x,C,hx=>by
  simp only [V.flat] at C;simp only [VR] at hx ⊢;obtain ⟨G,E,F⟩:=hx;exact ⟨G,E,VRs.flat _ _ C F⟩
theorem VRs.flat {ι C:Inj}:∀(l:List V) (F:List Value),V.flats l=true->VRs ι l F->VRs C l F
 | [],_,_,hx=>by simpa [VRs] using hx
 | v::l,F,E,hx=>by
  simp only [V.flats,az] at E;simp only [VRs] at hx ⊢;obtain ⟨y,G,J,O,Q⟩:=hx;exact ⟨y,G,J,VR.flat _ _ E.1 O,VRs.flat _ _ E.2 Q⟩
end
def gf:Inj:=λ_=>none
def jN (P:Program) (f:Nat) (args:List V) (v:V):Prop:=
 ∀(w:World) (a:Array Value),GL gf w->VRs gf args a.toList->Calls P f a w λe w'=>∃x,e=.returned x/\VR gf v x/\Fr gf w w'
theorem Ik {ro:Nat} {w w':World} (h:Fr (roI gf ro) w w'):Fr gf w w':=by
 have:roI gf ro=gf:=by
  funext b;unfold roI gf;cases Nat.blt b ro<;>rfl
 rwa [this] at h
theorem WR.nothing (w:World):WR gf [] 0 w:=⟨λ_ _ _ _ h=>(by cases h),λ_ _ h=>(by cases h),λ_ _ h=>(by cases h),λ_ _ h=>(by cases h)⟩
theorem jN.call {f:Nat} {args:List V} {v:V} (h:jN P f args v) (U:V.flats args=true) (H:List (Nat×Blk)) (fr:Nat):FC P f args H fr { val:=v }:=by
 intro ι nb w W E X _ _ hx;refine (h w W (X.mono λb q h=>by cases h) (VRs.flat _ _ U hx)).mono λe w' ⟨x,F,G,C⟩=>?_;subst F;have Q:=C.size;refine ⟨ι,λ_ _ _=>rfl,λb q F=>by simp [isIn] at F,λb q F G=>by simp at G;omega,λ_ _ h _=>h,?_,?_,rfl,VR.mono (λ_ _ h=>by cases h) _ _ G⟩
 ·simp only [dD,tc];refine ⟨E.inj,λb r J=>?_,λb r J=>?_,λb blk O Z=>?_⟩
  ·have:=E.low b r J;omega
  ·have:=E.dom b r J;omega
  ·exact (E.blk b blk O Z).map rfl (λq hq=>C.blk q.r (E.dom b q hq) (λ_ _ h=>by cases h)) (λ_ _ x=>x) (λ_ x=>x)
 ·refine ⟨C.os,C.tape,C.output,C.size,λk Y _=>C.blk k Y (λ_ _ h=>by cases h)⟩
end Go.Abs
