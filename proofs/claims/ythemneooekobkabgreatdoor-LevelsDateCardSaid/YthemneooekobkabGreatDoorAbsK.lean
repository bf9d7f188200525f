
/- The interpreter is sound: regions, code, functions.
   Conditions: none; generic over the program. -/
import Derived.Test.YthemneooekobkabGreatDoorAbsCut
import Derived.LoopN
import Derived.Scope
set_option linter.unusedSimpArgs false
set_option linter.unusedVariables false
namespace Go.Abs
variable {P:Program}
theorem wZ {α:Type} {E:List Ent} (i:∀x∈E,fW P x) {n:Nat} {ι0:Inj} {w0:Base} {ops:List Oper} {k:Ex->St->Option α} {z:α}:
  ∀(l:List Oper) (s:St) (ι:Inj) (a:Act) (w:World),Inv n ι0 w0 ι s a w->EB P E n ops l s k=some z->
   wpList P ops.toArray (Post n ι0 w0 λex s'=>k ex s'=some z) l a w
 | [],s,ι,a,w,g,h=>⟨.normal,s,ι,rfl,g,h⟩
 | o::l,s,ι,a,w,g,h=>by
  simp only [EB] at h;obtain ⟨f,s',h,e,m,_⟩:=Nz g h;unfold wpList;cases f
  ·simp only at h;rw [m];simp only [bw,aC];split at h
   ·rename_i r;exact wZ i l _ ι _ w (e.skip r) h
   ·cases h
  ·simp only at h;rw [m];simp only [aO];exact .inl (CH i e (λb t=>e.fresh b t) (aV _) h (λs' d p w' j c=>wZ i l s' d p w' c j)
    (λv s' d x p w' j q c=>⟨.pan v,s',d,⟨x,rfl,q⟩,c,j⟩))
theorem pJ {α:Type} {E:List Ent} (p:∀x∈E,fW P x) {L:List Sub} {n:Nat}:∀(c:AC) (s:St) (k:Ex->St->Option α) (z:α),jJ P n L c->run P E L n c s k=some z->
  SemC P n c.code s λex s'=>k ex s'=some z
 | .skip,s,k,z,_,h=>λι0 w0 ι a w g=>wp_skip ⟨.normal,s,ι,rfl,g,h⟩
 | .ret,s,k,z,_,h=>λι0 w0 ι a w g=>wp_ret ⟨.ret,s,ι,rfl,g,h⟩
 | .exit id,s,k,z,_,h=>λι0 w0 ι a w g=>wp_exit ⟨.exit id,s,ι,rfl,g,h⟩
 | .seq x y,s,k,z,hs,h=>by
  intro ι0 w0 ι a w g;simp only [jJ] at hs;simp only [run] at h;refine wp_seq (wp_mono (pJ p x s _ z hs.1 h ι0 w0 ι a w g) ?_);rintro e r w' ⟨ex,s',d,f,o,j⟩;cases ex with
  | normal=>simp only [ExR] at f;subst f;exact pJ p y s' k z hs.2 j ι0 w0 d r w' o
  | exit id=>simp only [ExR] at f;subst f;exact ⟨.exit id,s',d,rfl,o,j⟩
  | ret=>simp only [ExR] at f;subst f;exact ⟨.ret,s',d,rfl,o,j⟩
  | pan v=>obtain ⟨x,rfl,hx⟩:=f;exact ⟨.pan v,s',d,⟨x,rfl,hx⟩,o,j⟩
 | .cond c x y,s,k,z,hs,h=>by
  intro ι0 w0 ι a w g;simp only [jJ] at hs;simp only [run] at h;split at h
  ·rename_i b q;have t:=bA g.tmps q;simp only [VR] at t;cases b
   ·exact wp_cond_false t (pJ p y s k z hs.2 h ι0 w0 ι a w g)
   ·exact wp_cond_true t (pJ p x s k z hs.1 h ι0 w0 ι a w g)
  ·cases h
 | .block id x,s,k,z,hs,h=>by
  intro ι0 w0 ι a w g;simp only [jJ] at hs;simp only [run] at h;refine wp_block (wp_mono (pJ p x s _ z hs h ι0 w0 ι a w g) ?_);rintro e r w' ⟨ex,s',d,f,o,j⟩;cases ex with
  | normal=>simp only [ExR] at f;subst f;exact ⟨.normal,s',d,rfl,o,j⟩
  | exit i=>
   simp only [ExR] at f;subst f;simp only [Exit.inBlock];cases q:Nat.beq i id with
   | true=>
    simp only [q] at j;rw [ae (bC q)];exact ⟨.normal,s',d,rfl,o,j⟩
   | false=>
    simp only [q] at j;rw [ab (by rintro rfl;simp at q)];exact ⟨.exit i,s',d,rfl,o,j⟩
  | ret=>simp only [ExR] at f;subst f;exact ⟨.ret,s',d,rfl,o,j⟩
  | pan v=>obtain ⟨x,rfl,hx⟩:=f;exact ⟨.pan v,s',d,⟨x,rfl,hx⟩,o,j⟩
 | .reg id ops,s,k,z,_,h=>λι0 w0 ι a w g=>wp_region_lit (wZ p ops s ι a w g h)
 | .draw id ops,s,k,z,_,h=>Qu p h id
 | .sub m c,s,k,z,hs,h=>by
  simp only [jJ] at hs;simp only [run] at h;exact hs α s k z h
 | .loop c,s,k,z,hs,h=>by
  simp only [jJ] at hs;simp only [run] at h;intro ι0 w0 ι a w g;refine wp_loop_rounds 12 ?_;generalize 12=m at h
  induction m generalizing s ι a w with
  | zero=>simp [Qa] at h
  | succ m ih=>
   rw [rounds_succ];simp only [Qa] at h;refine uJ ?_ (pJ p c s _ z hs h ι0 w0 ι a w g);rintro e r w' ⟨ex,s',d,f,o,j⟩;cases ex with
   | normal=>simp only [ExR] at f;subst f;exact ih s' d r w' (by assumption) (by assumption)
   | exit id=>simp only [ExR] at f;subst f;exact ⟨.exit id,s',d,rfl,o,j⟩
   | ret=>simp only [ExR] at f;subst f;exact ⟨.ret,s',d,rfl,o,j⟩
   | pan v=>obtain ⟨x,rfl,hx⟩:=f;exact ⟨.pan v,s',d,⟨x,rfl,hx⟩,o,j⟩
 | .scope c,s,k,z,hs,h=>by
  simp only [jJ] at hs;simp only [run] at h;intro ι0 w0 ι a w g;refine wp_scope_straight (uJ ?_ (pJ p c s _ z hs h ι0 w0 ι a w g));rintro e r w' ⟨ex,s',d,f,o,j⟩;cases ex with
  | normal=>simp only [ExR] at f;subst f;exact ⟨.normal,s',d,rfl,o,j⟩
  | exit id=>simp only [ExR] at f;subst f;exact ⟨.exit id,s',d,rfl,o,j⟩
  | ret=>simp only [ExR] at f;subst f;exact ⟨.ret,s',d,rfl,o,j⟩
  | pan v=>obtain ⟨x,rfl,hx⟩:=f;exact ⟨.pan v,s',d,⟨x,rfl,hx⟩,o,j⟩
 | .label l,s,k,z,_,h=>λι0 w0 ι a w g=>wp_label ⟨.normal,s,ι,rfl,g,h⟩
 | .bad c,s,k,z,_,h=>by simp [run] at h
def tK:List V->Nat->List (Nat×Option V)
 | [],_=>[]
 | v::l,j=>(j,some v)::tK l (j+1)
def retK {α:Type} (P:Program):List ResultVar->St->(List V->Option α)->Option α
 | [],_,c=>c []
 | .tmp t::r,s,c=>match look s.T t with
  | some (some v)=>retK P r s λl=>c (v::l)
  | _=>none
 | .cell t a::r,s,c=>match look s.T t with
  | some (some (.p b o))=>match look s.H b with
   | some blk=>zg P a blk o λv=>retK P r s λl=>c (v::l)
   | none=>none
  | _=>none
def LI:List V->V
 | [v]=>v
 | l=>.tp l
def finK {α:Type} (P:Program) (a:List ResultVar) (K:Bool->V->St->Option α):Ex->St->Option α
 | .normal,s=>retK P a s λl=>K false (LI l) s
 | .ret,s=>retK P a s λl=>K false (LI l) s
 | .pan v,s=>K true v s
 | .exit _,_=>none
theorem sq:∀(l:List V) (j t:Nat),look (tK l j) t=if j<=t then (l[t - j]?).map some else none
 | [],j,t=>by simp [tK,look]
 | v::l,j,t=>by
  simp only [tK,aY,sq l (j+1) t];by_cases h:j=t
  ·subst h;simp
  ·simp only [h,aC];by_cases a:j<=t
   ·rw [ae (by omega),ae a,show t - j=(t - (j+1))+1 by omega];rfl
   ·rw [ab (by omega),ab a]
def QE (b:Array Value):ResultVar->Sem Value
 | .tmp t=>pure (b.getD t undef)
 | .cell a t=>do loadVar t (<-asAddr (b.getD a undef))
theorem zH (fn:Func) (b:Array Value):results fn b=(do
  let a <-fn.results.mapM (QE b)
  pure (if h:a.size=1 then a[0] else .tuple a)):=by
 unfold results;congr 2
theorem FH {α:Type} {n:Nat} {ι0 ι:Inj} {w0:Base} {s:St} {a:Act} {w:World} (f:Inv n ι0 w0 ι s a w):∀(e:List ResultVar) (c:List V->Option α) (z:α),retK P e s c=some z->
  ∃l d,c l=some z/\VRs ι l d/\(e.mapM (QE a.tmps)).run P w=.ok d w
 | [],c,z,h=>⟨[],[],h,by simp [VRs],rfl⟩
 | .tmp t::e,c,z,h=>by
  simp only [retK] at h;split at h
  ·rename_i v i;obtain ⟨x,j,g⟩:=f.tmps t v i;obtain ⟨l,d,p,m,k⟩:=FH f e _ z h;refine ⟨v::l,x::d,p,by simp only [VRs];exact ⟨x,d,rfl,g,m⟩,?_⟩;have hx:a.tmps.getD t undef=x:=by rw [rK,j];rfl
   simp only [BJ,QE,ax,aD,az,k,hx]
  ·cases h
 | .cell t A::e,c,z,h=>by
  simp only [retK] at h;split at h
  ·rename_i b o i;obtain ⟨x,j,g⟩:=f.tmps t _ i;split at h
   ·rename_i blk B;obtain ⟨v,X,r,y,D,E,C⟩:=Hf f.mem B h;obtain ⟨l,d,p,m,k⟩:=FH f e _ z y;refine ⟨v::l,X::d,p,by simp only [VRs];exact ⟨X,d,rfl,C,m⟩,?_⟩;simp only [VR] at g;obtain ⟨F,u,rfl⟩:=g;rw [D] at u;cases u;have hx:a.tmps.getD t undef=.pointer (some ⟨r.r,o,none⟩):=by rw [rK,j];rfl
    have q:(loadVar A ⟨r.r,o,none⟩).run P w=.ok X w:=by
     simpa only [Instr.loadAt,Instr.sureAddr,ax,aD,az] using E
    simp only [BJ,QE,ax,az,k,hx,asAddr,aD,q]
   ·cases h
  ·cases h
theorem Qm {ι:Inj} {l:List V} {a:List Value} (h:VRs ι l a):VR ι (LI l) (if h:a.toArray.size=1 then a.toArray[0] else .tuple a.toArray):=by
 have d:=h.length;unfold LI;split
 ·rename_i v;simp only [VRs] at h;obtain ⟨y,e,rfl,b,rfl⟩:=h;simpa using b
 ·rename_i c;have:¬a.toArray.size=1:=by
   intro b;simp only [yn] at b;rw [d] at b
   match l,b with
   | [v],_=>exact c v rfl
  rw [dif_neg this];simp only [VR];exact ⟨_,rfl,by simpa using h⟩
theorem Af {α:Type} {fn:Func} {n:Nat} {ι0 ι:Inj} {w0:Base} {s:St} {a:Act} {w:World} (d:Inv n ι0 w0 ι s a w) {c:V->Option α} {z:α}
  (h:retK P fn.results.toList s (λl=>c (LI l))=some z):∃v x,c v=some z/\VR ι v x/\(results fn a.tmps).run P w=.ok x w:=by
 obtain ⟨l,g,b,e,f⟩:=FH d _ _ _ h;refine ⟨_,_,b,Qm e,?_⟩;rw [zH,Q8];simp only [ax,Sem.run_map,f,az,aD]
def CG {α:Type} (P:Program) (f:Nat) (args:List V) (H0:List (Nat×Blk)) (nb0 ro:Nat) (K:Bool->V->St->Option α) (z:α):Prop:=
 ∀(ι0:Inj) (w:World) (a:Array Value),WR ι0 H0 nb0 w->(∀b q,ι0 b=some (some q)->q.fz=true->b<ro)->GL (roI ι0 ro) w->VRs ι0 args a.toList->
  Calls P f a w λe w'=>∃(pan:Bool) (v:V) (s:St) (ι:Inj),K pan v s=some z/\(∀b q,ι0 b=some q->ι b=some q\/s.rb<=b)/\(∀b q,ι b=some (some q)->(∃c,ι0 b=some (some c)/\c.r=q.r)\/w.heap.size<=q.r)/\
   WR ι s.H s.nb w'/\(∀b q,ι b=some (some q)->q.fz=true->b<s.ro)/\Fr (roI ι0 s.ro) w w'/\RetR ι { val:=v,pan:=pan } e
theorem L8 {α:Type} {E:List Ent} (M:∀x∈E,fW P x) {L:List Sub} {f:Nat} {fn:Func} {c:Code} {ac:AC} (D:P.funcs[f]?=some fn) (O:fn.body=some c) (hc:ac.code=c)
  (J:jJ P fn.ntmps L ac) {args:List V} {H0:List (Nat×Blk)} {nb0 ro rb:Nat} {K:Bool->V->St->Option α} {z:α} (C:Nat.ble args.length fn.ntmps=true)
  (h:run P E L fn.ntmps ac ⟨tK args 0,H0,nb0,nb0,ro,rb⟩ (finK P fn.results.toList K)=some z) (ι0:Inj) (w:World) (d:Array Value) (B:WR ι0 H0 nb0 w) (y:∀b q,ι0 b=some (some q)->q.fz=true->b<ro) (m:GL (roI ι0 ro) w) (hx:VRs ι0 args d.toList):
  Calls P f d w λe w'=>∃(pan:Bool) (v:V) (s:St) (ι:Inj),K pan v s=some z/\(∀b q,ι0 b=some q->ι b=some q\/s.rb<=b)/\(∀b q,ι b=some (some q)->(∃l,ι0 b=some (some l)/\l.r=q.r)\/w.heap.size<=q.r)/\
   WR ι s.H s.nb w'/\(∀b q,ι b=some (some q)->q.fz=true->b<s.ro)/\Fr (roI ι0 s.ro) w w'/\RetR ι { val:=v,pan:=pan } e:=by
 have A:d.size=args.length:=by simpa using hx.length
 have C:=aL C;refine calls_of_wp D O ?_;rw [<-hc];have N:Inv fn.ntmps ι0 ⟨w,[]⟩ ι0 ⟨tK args 0,H0,nb0,nb0,ro,rb⟩ { tmps:=d++Array.replicate (fn.ntmps - d.size) undef,defers:=[] } w:=by
  refine ⟨by simp;omega,rfl,λt v k=>?_,B,λ_ _ h=>.inl h,λ_ q h=>.inl ⟨q,h,rfl⟩,Fr.refl _ _,λb r h=>B.low b r h,y,m⟩;rw [sq,ae (jI _)] at k;simp only [qT] at k;cases n:args[t]? with
  | none=>simp [n] at k
  | some u=>
   simp only [n,fa,av] at k;subst k;obtain ⟨x,i,a⟩:=hx.get n;have h1':d[t]?=some x:=by simpa using i
   have o:t<d.size:=by
    rcases aH t d.size with p | p
    ·exact p
    ·rw [yd p] at h1';cases h1'
   exact ⟨x,by rw [Uu o];exact h1',a⟩
 refine uJ ?_ (pJ M ac _ _ z J h ι0 ⟨w,[]⟩ ι0 _ w N);rintro e G w' ⟨ex,s',j,i,a,g⟩;have fin:finK P fn.results.toList K .ret s'=some z->∃v,(results fn G.tmps).run P w'=.ok v w'/\∃(pan:Bool) (u:V) (s:St) (ι:Inj),K pan u s=some z/\(∀b q,ι0 b=some q->ι b=some q\/s.rb<=b)/\(∀b q,ι b=some (some q)->(∃l,ι0 b=some (some l)/\l.r=q.r)\/w.heap.size<=q.r)/\
   WR ι s.H s.nb w'/\(∀b q,ι b=some (some q)->q.fz=true->b<s.ro)/\Fr (roI ι0 s.ro) w w'/\RetR ι { val:=u,pan:=pan } (.returned v):=by
  intro g;simp only [finK] at g;obtain ⟨v,x,I,F,Q⟩:=Af (fn:=fn) (c:=λv=>K false v s') a g;exact ⟨x,Q,false,v,s',j,I,a.ext,a.new,a.mem,a.fz,a.fr,rfl,F⟩
 cases ex with
 | normal=>
  simp only [ExR] at i;subst i;exact ⟨a.defers,fin g⟩
 | ret=>
  simp only [ExR] at i;subst i;exact ⟨a.defers,fin g⟩
 | exit id=>simp [finK] at g
 | pan v=>
  obtain ⟨x,rfl,hx⟩:=i;exact ⟨a.defers,true,v,s',j,g,a.ext,a.new,a.mem,a.fz,a.fr,rfl,x,rfl,hx⟩
mutual
def V.flat:V->Bool
 | .b _ | .i _ _ | .s _ | .pn | .sn | .nf | .ni | .ai _ _ _ | .unk=>true
 | .p _ _ | .sl _ _ _ _ | .pr _ _ _ _ | .ws _ | .rs _ _ _ _ _ | .mp _=>false
 | .fn _ l | .ag l | .tp l=>V.flats l
 | .it _ v=>V.flat v
def V.flats:List V->Bool
 | []=>true
 | v::l=>V.flat v&&V.flats l
end
mutual
theorem VR.flat {ι J:Inj}:∀(v:V) (x:Value),V.flat v=true->VR ι v x->VR J v x
 | .b _,_,_,hx | .i _ _,_,_,hx | .s _,_,_,hx | .pn,_,_,hx | .sn,_,_,hx | .nf,_,_,hx | .ni,_,_,hx | .ai _ _ _,_,_,hx | .unk,_,_,hx=>by simpa only [VR] using hx
 | .p b o,x,C,hx=>by simp [V.flat] at C
 | .mp b,x,C,hx=>by simp [V.flat] at C
 | .pr z b j o,x,C,hx=>by simp [V.flat] at C
 | .ws b,x,C,hx=>by simp [V.flat] at C
 | .rs z b j n _,x,C,hx=>by simp [V.flat] at C
 | .sl b o len cap,x,C,hx=>by simp [V.flat] at C
 | .fn f cap,x,C,hx=>by
  simp only [V.flat] at C;simp only [VR] at hx ⊢;obtain ⟨G,F,E⟩:=hx;exact ⟨G,F,VRs.flat _ _ C E⟩
 | .it t v,x,C,hx=>by
  simp only [V.flat] at C;simp only [VR] at hx ⊢;obtain ⟨y,F,E⟩:=hx;exact ⟨y,F,VR.flat _ _ C E⟩
 | .ag l,x,C,hx=>by
  simp only [V.flat] at C;simp only [VR] at hx ⊢;obtain ⟨G,F,E⟩:=hx;exact ⟨G,F,VRs.flat _ _ C E⟩
 | .tp l,x,C,hx=>by
  simp only [V.flat] at C;simp only [VR] at hx ⊢;obtain ⟨G,F,E⟩:=hx;exact ⟨G,F,VRs.flat _ _ C E⟩
theorem VRs.flat {ι F:Inj}:∀(l:List V) (C:List Value),V.flats l=true->VRs ι l C->VRs F l C
 | [],_,_,hx=>by simpa [VRs] using hx
 | v::l,C,E,hx=>by
  simp only [V.flats,aA] at E;simp only [VRs] at hx ⊢;obtain ⟨y,J,Q,O,G⟩:=hx;exact ⟨y,J,Q,VR.flat _ _ E.1 O,VRs.flat _ _ E.2 G⟩
end
def gY:Inj:=λ_=>none
def k7 (P:Program) (f:Nat) (args:List V) (v:V):Prop:=
 ∀(w:World) (a:Array Value),GL gY w->VRs gY args a.toList->Calls P f a w λe w'=>∃x,e=.returned x/\VR gY v x/\Fr gY w w'
theorem KX {ro:Nat} {w w':World} (h:Fr (roI gY ro) w w'):Fr gY w w':=by
 have:roI gY ro=gY:=by
  funext b;unfold roI gY;cases Nat.blt b ro<;>rfl
 rwa [this] at h
theorem WR.nothing (w:World):WR gY [] 0 w:=⟨λ_ _ _ _ h=>(by cases h),λ_ _ h=>(by cases h),λ_ _ h=>(by cases h),λ_ _ h=>(by cases h)⟩
theorem k7.call {f:Nat} {args:List V} {v:V} (h:k7 P f args v) (X:V.flats args=true) (H:List (Nat×Blk)) (fr:Nat):GT P f args H fr { val:=v }:=by
 intro ι nb w W E Z _ _ hx;refine (h w W (Z.mono λb q h=>by cases h) (VRs.flat _ _ X hx)).mono λe w' ⟨x,F,J,C⟩=>?_;subst F;have Y:=C.size;refine ⟨ι,λ_ _ _=>rfl,λb q F=>by simp [isIn] at F,λb q F J=>by simp at J;omega,λ_ _ h _=>h,?_,?_,rfl,VR.mono (λ_ _ h=>by cases h) _ _ J⟩
 ·simp only [dJ,uw];refine ⟨E.inj,λb r G=>?_,λb r G=>?_,λb blk Q U=>?_⟩
  ·have:=E.low b r G;omega
  ·have:=E.dom b r G;omega
  ·exact (E.blk b blk Q U).map rfl (λq O=>C.blk q.r (E.dom b q O) (λ_ _ h=>by cases h)) (λ_ _ x=>x) (λ_ x=>x)
 ·refine ⟨C.os,C.tape,C.output,C.size,λk hk _=>C.blk k hk (λ_ _ h=>by cases h)⟩
end Go.Abs
