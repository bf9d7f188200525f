
/- The interpreter is sound: regions, code, functions.
   Conditions: none; generic over the program. -/
import Derived.Test.YthemneooekobkaaGreatDoorAbsCut
import Derived.LoopN
import Derived.Scope
set_option linter.unusedSimpArgs false
set_option linter.unusedVariables false
namespace Go.Abs
variable {P:Program}
theorem tR {α:Type} {E:List Ent} (g:∀x∈E,fO P x) {n:Nat} {ι0:Inj} {w0:Base} {ops:List Oper} {k:Ex->St->Option α} {z:α}:
  ∀(l:List Oper) (s:St) (ι:Inj) (a:Act) (w:World),Inv n ι0 w0 ι s a w->zF P E n ops l s k=some z->
   wpList P ops.toArray (Post n ι0 w0 λex s'=>k ex s'=some z) l a w
 | [],s,ι,a,w,i,h=>⟨.normal,s,ι,rfl,i,h⟩
 | o::l,s,ι,a,w,i,h=>by
  simp only [zF] at h;obtain ⟨f,s',h,e,p,_⟩:=IQ i h;unfold wpList;cases f
  ·simp only at h;rw [p];simp only [bq,aE];split at h
   ·rename_i q;exact tR g l _ ι _ w (e.skip q) h
   ·cases h
  ·simp only at h;rw [p];simp only [aJ];exact .inl (yg g e (λb r=>e.fresh b r) (aU _) h (λs' d m w' j c=>tR g l s' d m w' c j)
    (λv s' d x m w' j t c=>⟨.pan v,s',d,⟨x,rfl,t⟩,c,j⟩))
theorem mN {α:Type} {E:List Ent} (q:∀x∈E,fO P x) {L:List Sub} {n:Nat}:∀(c:AC) (s:St) (k:Ex->St->Option α) (z:α),iJ P n L c->run P E L n c s k=some z->
  SemC P n c.code s λex s'=>k ex s'=some z
 | .skip,s,k,z,_,h=>λι0 w0 ι a w g=>wp_skip ⟨.normal,s,ι,rfl,g,h⟩
 | .ret,s,k,z,_,h=>λι0 w0 ι a w g=>wp_ret ⟨.ret,s,ι,rfl,g,h⟩
 | .exit id,s,k,z,_,h=>λι0 w0 ι a w g=>wp_exit ⟨.exit id,s,ι,rfl,g,h⟩
 | .seq x y,s,k,z,p,h=>by
  intro ι0 w0 ι a w g;simp only [iJ] at p;simp only [run] at h;refine wp_seq (wp_mono (mN q x s _ z p.1 h ι0 w0 ι a w g) ?_);rintro e u w' ⟨ex,s',d,f,o,j⟩;cases ex with
  | normal=>simp only [ExR] at f;subst f;exact mN q y s' k z p.2 j ι0 w0 d u w' o
  | exit id=>simp only [ExR] at f;subst f;exact ⟨.exit id,s',d,rfl,o,j⟩
  | ret=>simp only [ExR] at f;subst f;exact ⟨.ret,s',d,rfl,o,j⟩
  | pan v=>obtain ⟨x,rfl,r⟩:=f;exact ⟨.pan v,s',d,⟨x,rfl,r⟩,o,j⟩
 | .cond c x y,s,k,z,p,h=>by
  intro ι0 w0 ι a w g;simp only [iJ] at p;simp only [run] at h;split at h
  ·rename_i b t;have A:=bh g.tmps t;simp only [VR] at A;cases b
   ·exact wp_cond_false A (mN q y s k z p.2 h ι0 w0 ι a w g)
   ·exact wp_cond_true A (mN q x s k z p.1 h ι0 w0 ι a w g)
  ·cases h
 | .block id x,s,k,z,p,h=>by
  intro ι0 w0 ι a w g;simp only [iJ] at p;simp only [run] at h;refine wp_block (wp_mono (mN q x s _ z p h ι0 w0 ι a w g) ?_);rintro e u w' ⟨ex,s',d,f,o,j⟩;cases ex with
  | normal=>simp only [ExR] at f;subst f;exact ⟨.normal,s',d,rfl,o,j⟩
  | exit i=>
   simp only [ExR] at f;subst f;simp only [Exit.inBlock];cases t:Nat.beq i id with
   | true=>
    simp only [t] at j;rw [ae (bm t)];exact ⟨.normal,s',d,rfl,o,j⟩
   | false=>
    simp only [t] at j;rw [ab (by rintro rfl;simp at t)];exact ⟨.exit i,s',d,rfl,o,j⟩
  | ret=>simp only [ExR] at f;subst f;exact ⟨.ret,s',d,rfl,o,j⟩
  | pan v=>obtain ⟨x,rfl,r⟩:=f;exact ⟨.pan v,s',d,⟨x,rfl,r⟩,o,j⟩
 | .reg id ops,s,k,z,_,h=>λι0 w0 ι a w g=>wp_region_lit (tR q ops s ι a w g h)
 | .draw id ops,s,k,z,_,h=>LR q h id
 | .sub m c,s,k,z,p,h=>by
  simp only [iJ] at p;simp only [run] at h;exact p α s k z h
 | .loop c,s,k,z,p,h=>by
  simp only [iJ] at p;simp only [run] at h;intro ι0 w0 ι a w g;refine wp_loop_rounds 12 ?_;generalize 12=m at h
  induction m generalizing s ι a w with
  | zero=>simp [K6] at h
  | succ m ih=>
   rw [rounds_succ];simp only [K6] at h;refine rC ?_ (mN q c s _ z p h ι0 w0 ι a w g);rintro e u w' ⟨ex,s',d,f,o,j⟩;cases ex with
   | normal=>simp only [ExR] at f;subst f;exact ih s' d u w' (by assumption) (by assumption)
   | exit id=>simp only [ExR] at f;subst f;exact ⟨.exit id,s',d,rfl,o,j⟩
   | ret=>simp only [ExR] at f;subst f;exact ⟨.ret,s',d,rfl,o,j⟩
   | pan v=>obtain ⟨x,rfl,r⟩:=f;exact ⟨.pan v,s',d,⟨x,rfl,r⟩,o,j⟩
 | .scope c,s,k,z,p,h=>by
  simp only [iJ] at p;simp only [run] at h;intro ι0 w0 ι a w g;refine wp_scope_straight (rC ?_ (mN q c s _ z p h ι0 w0 ι a w g));rintro e u w' ⟨ex,s',d,f,o,j⟩;cases ex with
  | normal=>simp only [ExR] at f;subst f;exact ⟨.normal,s',d,rfl,o,j⟩
  | exit id=>simp only [ExR] at f;subst f;exact ⟨.exit id,s',d,rfl,o,j⟩
  | ret=>simp only [ExR] at f;subst f;exact ⟨.ret,s',d,rfl,o,j⟩
  | pan v=>obtain ⟨x,rfl,r⟩:=f;exact ⟨.pan v,s',d,⟨x,rfl,r⟩,o,j⟩
 | .label l,s,k,z,_,h=>λι0 w0 ι a w g=>wp_label ⟨.normal,s,ι,rfl,g,h⟩
 | .bad c,s,k,z,_,h=>by simp [run] at h
def qg:List V->Nat->List (Nat×Option V)
 | [],_=>[]
 | v::l,j=>(j,some v)::qg l (j+1)
def retK {α:Type} (P:Program):List ResultVar->St->(List V->Option α)->Option α
 | [],_,c=>c []
 | .tmp t::r,s,c=>match look s.T t with
  | some (some v)=>retK P r s λl=>c (v::l)
  | _=>none
 | .cell t a::r,s,c=>match look s.T t with
  | some (some (.p b o))=>match look s.H b with
   | some blk=>vX P a blk o λv=>retK P r s λl=>c (v::l)
   | none=>none
  | _=>none
def I7:List V->V
 | [v]=>v
 | l=>.tp l
def finK {α:Type} (P:Program) (a:List ResultVar) (K:Bool->V->St->Option α):Ex->St->Option α
 | .normal,s=>retK P a s λl=>K false (I7 l) s
 | .ret,s=>retK P a s λl=>K false (I7 l) s
 | .pan v,s=>K true v s
 | .exit _,_=>none
theorem pf:∀(l:List V) (j t:Nat),look (qg l j) t=if j<=t then (l[t - j]?).map some else none
 | [],j,t=>by simp [qg,look]
 | v::l,j,t=>by
  simp only [qg,aP,pf l (j+1) t];by_cases h:j=t
  ·subst h;simp
  ·simp only [h,aE];by_cases a:j<=t
   ·rw [ae (by omega),ae a,show t - j=(t - (j+1))+1 by omega];rfl
   ·rw [ab (by omega),ab a]
def Ld (b:Array Value):ResultVar->Sem Value
 | .tmp t=>pure (b.getD t undef)
 | .cell a t=>do loadVar t (<-asAddr (b.getD a undef))
theorem xa (fn:Func) (b:Array Value):results fn b=(do
  let a <-fn.results.mapM (Ld b)
  pure (if h:a.size=1 then a[0] else .tuple a)):=by
 unfold results;congr 2
theorem Bl {α:Type} {n:Nat} {ι0 ι:Inj} {w0:Base} {s:St} {a:Act} {w:World} (f:Inv n ι0 w0 ι s a w):∀(e:List ResultVar) (c:List V->Option α) (z:α),retK P e s c=some z->
  ∃l d,c l=some z/\VRs ι l d/\(e.mapM (Ld a.tmps)).run P w=.ok d w
 | [],c,z,h=>⟨[],[],h,by simp [VRs],rfl⟩
 | .tmp t::e,c,z,h=>by
  simp only [retK] at h;split at h
  ·rename_i v p;obtain ⟨x,j,g⟩:=f.tmps t v p;obtain ⟨l,d,m,k,i⟩:=Bl f e _ z h;refine ⟨v::l,x::d,m,by simp only [VRs];exact ⟨x,d,rfl,g,k⟩,?_⟩;have u:a.tmps.getD t undef=x:=by rw [oy,j];rfl
   simp only [xO,Ld,ax,aC,az,i,u]
  ·cases h
 | .cell t D::e,c,z,h=>by
  simp only [retK] at h;split at h
  ·rename_i b o p;obtain ⟨x,j,g⟩:=f.tmps t _ p;split at h
   ·rename_i blk C;obtain ⟨v,X,r,E,F,A,B⟩:=Ez f.mem C h;obtain ⟨l,d,m,k,i⟩:=Bl f e _ z E;refine ⟨v::l,X::d,m,by simp only [VRs];exact ⟨X,d,rfl,B,k⟩,?_⟩;simp only [VR] at g;obtain ⟨G,y,rfl⟩:=g;rw [F] at y;cases y;have u:a.tmps.getD t undef=.pointer (some ⟨r.r,o,none⟩):=by rw [oy,j];rfl
    have q:(loadVar D ⟨r.r,o,none⟩).run P w=.ok X w:=by
     simpa only [Instr.loadAt,Instr.sureAddr,ax,aC,az] using A
    simp only [xO,Ld,ax,az,i,u,asAddr,aC,q]
   ·cases h
  ·cases h
theorem LG {ι:Inj} {l:List V} {a:List Value} (h:VRs ι l a):VR ι (I7 l) (if h:a.toArray.size=1 then a.toArray[0] else .tuple a.toArray):=by
 have d:=h.length;unfold I7;split
 ·rename_i v;simp only [VRs] at h;obtain ⟨y,e,rfl,b,rfl⟩:=h;simpa using b
 ·rename_i c;have:¬a.toArray.size=1:=by
   intro b;simp only [xF] at b;rw [d] at b
   match l,b with
   | [v],_=>exact c v rfl
  rw [dif_neg this];simp only [VR];exact ⟨_,rfl,by simpa using h⟩
theorem wg {α:Type} {fn:Func} {n:Nat} {ι0 ι:Inj} {w0:Base} {s:St} {a:Act} {w:World} (d:Inv n ι0 w0 ι s a w) {c:V->Option α} {z:α}
  (h:retK P fn.results.toList s (λl=>c (I7 l))=some z):∃v x,c v=some z/\VR ι v x/\(results fn a.tmps).run P w=.ok x w:=by
 obtain ⟨l,g,f,b,e⟩:=Bl d _ _ _ h;refine ⟨_,_,f,LG b,?_⟩;rw [xa,NH];simp only [ax,Sem.run_map,e,az,aC]
def za {α:Type} (P:Program) (f:Nat) (args:List V) (H0:List (Nat×Blk)) (nb0 ro:Nat) (K:Bool->V->St->Option α) (z:α):Prop:=
 ∀(ι0:Inj) (w:World) (c:Array Value),WR ι0 H0 nb0 w->(∀b q,ι0 b=some (some q)->q.fz=true->b<ro)->GL (roI ι0 ro) w->VRs ι0 args c.toList->
  Calls P f c w λe w'=>∃(pan:Bool) (v:V) (s:St) (ι:Inj),K pan v s=some z/\(∀b q,ι0 b=some q->ι b=some q\/s.rb<=b)/\(∀b q,ι b=some (some q)->(∃a,ι0 b=some (some a)/\a.r=q.r)\/w.heap.size<=q.r)/\
   WR ι s.H s.nb w'/\(∀b q,ι b=some (some q)->q.fz=true->b<s.ro)/\Fr (roI ι0 s.ro) w w'/\RetR ι { val:=v,pan:=pan } e
theorem Ht {α:Type} {E:List Ent} (N:∀x∈E,fO P x) {L:List Sub} {f:Nat} {fn:Func} {c:Code} {ac:AC} (J:P.funcs[f]?=some fn) (I:fn.body=some c) (hc:ac.code=c)
  (O:iJ P fn.ntmps L ac) {args:List V} {H0:List (Nat×Blk)} {nb0 ro rb:Nat} {K:Bool->V->St->Option α} {z:α} (C:Nat.ble args.length fn.ntmps=true)
  (h:run P E L fn.ntmps ac ⟨qg args 0,H0,nb0,nb0,ro,rb⟩ (finK P fn.results.toList K)=some z) (ι0:Inj) (w:World) (d:Array Value) (F:WR ι0 H0 nb0 w) (o:∀b q,ι0 b=some (some q)->q.fz=true->b<ro) (B:GL (roI ι0 ro) w) (n:VRs ι0 args d.toList):
  Calls P f d w λe w'=>∃(pan:Bool) (v:V) (s:St) (ι:Inj),K pan v s=some z/\(∀b q,ι0 b=some q->ι b=some q\/s.rb<=b)/\(∀b q,ι b=some (some q)->(∃k,ι0 b=some (some k)/\k.r=q.r)\/w.heap.size<=q.r)/\
   WR ι s.H s.nb w'/\(∀b q,ι b=some (some q)->q.fz=true->b<s.ro)/\Fr (roI ι0 s.ro) w w'/\RetR ι { val:=v,pan:=pan } e:=by
 have D:d.size=args.length:=by simpa using n.length
 have C:=aH C;refine calls_of_wp J I ?_;rw [<-hc];have S:Inv fn.ntmps ι0 ⟨w,[]⟩ ι0 ⟨qg args 0,H0,nb0,nb0,ro,rb⟩ { tmps:=d++Array.replicate (fn.ntmps - d.size) undef,defers:=[] } w:=by
  refine ⟨by simp;omega,rfl,λt v l=>?_,F,λ_ _ h=>.inl h,λ_ q h=>.inl ⟨q,h,rfl⟩,Fr.refl _ _,λb r h=>F.low b r h,o,B⟩;rw [pf,ae (fB _)] at l;simp only [nA] at l;cases p:args[t]? with
  | none=>simp [p] at l
  | some u=>
   simp only [p,ew,aq] at l;subst l;obtain ⟨x,g,a⟩:=n.get p;have h1':d[t]?=some x:=by simpa using g
   have A:t<d.size:=by
    rcases aF t d.size with y | y
    ·exact y
    ·rw [tQ y] at h1';cases h1'
   exact ⟨x,by rw [Pg A];exact h1',a⟩
 refine rC ?_ (mN N ac _ _ z O h ι0 ⟨w,[]⟩ ι0 _ w S);rintro e M w' ⟨ex,s',j,g,a,i⟩;have m:finK P fn.results.toList K .ret s'=some z->∃v,(results fn M.tmps).run P w'=.ok v w'/\∃(pan:Bool) (u:V) (s:St) (ι:Inj),K pan u s=some z/\(∀b q,ι0 b=some q->ι b=some q\/s.rb<=b)/\(∀b q,ι b=some (some q)->(∃k,ι0 b=some (some k)/\k.r=q.r)\/w.heap.size<=q.r)/\
   WR ι s.H s.nb w'/\(∀b q,ι b=some (some q)->q.fz=true->b<s.ro)/\Fr (roI ι0 s.ro) w w'/\RetR ι { val:=u,pan:=pan } (.returned v):=by
  intro i;simp only [finK] at i;obtain ⟨v,x,Q,R,G⟩:=wg (fn:=fn) (c:=λv=>K false v s') a i;exact ⟨x,G,false,v,s',j,Q,a.ext,a.new,a.mem,a.fz,a.fr,rfl,R⟩
 cases ex with
 | normal=>
  simp only [ExR] at g;subst g;exact ⟨a.defers,m i⟩
 | ret=>
  simp only [ExR] at g;subst g;exact ⟨a.defers,m i⟩
 | exit id=>simp [finK] at i
 | pan v=>
  obtain ⟨x,rfl,n⟩:=g;exact ⟨a.defers,true,v,s',j,i,a.ext,a.new,a.mem,a.fz,a.fr,rfl,x,rfl,n⟩
mutual
def V.flat:V->Bool
 | .b _ | .i _ _ | .s _ | .pn | .sn | .nf | .ni | .ai _ _ _ | .unk=>true
 | .p _ _ | .sl _ _ _ _ | .pr _ _ _ _ | .ws _ | .rs _ _ _ _ _ | .mp _=>false
 | .fn _ l | .ag l | .tp l=>V.flats l
 | .it _ v=>V.flat v
def V.flats:List V->Bool
 | []=>true
 | v::l=>V.flat v&&V.flats l
end
mutual
theorem VR.flat {ι K:Inj}:∀(v:V) (x:Value),V.flat v=true->VR ι v x->VR K v x
 | .b _,_,_,C | .i _ _,_,_,C | .s _,_,_,C | .pn,_,_,C | .sn,_,_,C | .nf,_,_,C | .ni,_,_,C | .ai _ _ _,_,_,C | .unk,_,_,C=>by simpa only [VR] using C
 | .p b o,x,E,C=>by simp [V.flat] at E
 | .mp b,x,E,C=>by simp [V.flat] at E
 | .pr z b j o,x,E,C=>by simp [V.flat] at E
 | .ws b,x,E,C=>by simp [V.flat] at E
 | .rs z b j n _,x,E,C=>by simp [V.flat] at E
 | .sl b o len cap,x,E,C=>by simp [V.flat] at E
 | .fn f cap,x,E,C=>by
  simp only [V.flat] at E;simp only [VR] at C ⊢;obtain ⟨J,G,F⟩:=C;exact ⟨J,G,VRs.flat _ _ E F⟩
 | .it t v,x,E,C=>by
  simp only [V.flat] at E;simp only [VR] at C ⊢;obtain ⟨y,G,F⟩:=C;exact ⟨y,G,VR.flat _ _ E F⟩
 | .ag l,x,E,C=>by
  simp only [V.flat] at E;simp only [VR] at C ⊢;obtain ⟨J,G,F⟩:=C;exact ⟨J,G,VRs.flat _ _ E F⟩
 | .tp l,x,E,C=>by
  simp only [V.flat] at E;simp only [VR] at C ⊢;obtain ⟨J,G,F⟩:=C;exact ⟨J,G,VRs.flat _ _ E F⟩
theorem VRs.flat {ι G:Inj}:∀(l:List V) (F:List Value),V.flats l=true->VRs ι l F->VRs G l F
 | [],_,_,C=>by simpa [VRs] using C
 | v::l,F,E,C=>by
  simp only [V.flats,aA] at E;simp only [VRs] at C ⊢;obtain ⟨y,O,Q,J,K⟩:=C;exact ⟨y,O,Q,VR.flat _ _ E.1 J,VRs.flat _ _ E.2 K⟩
end
def iM:Inj:=λ_=>none
def jP (P:Program) (f:Nat) (args:List V) (v:V):Prop:=
 ∀(w:World) (a:Array Value),GL iM w->VRs iM args a.toList->Calls P f a w λe w'=>∃x,e=.returned x/\VR iM v x/\Fr iM w w'
theorem GY {ro:Nat} {w w':World} (h:Fr (roI iM ro) w w'):Fr iM w w':=by
 have:roI iM ro=iM:=by
  funext b;unfold roI iM;cases Nat.blt b ro<;>rfl
 rwa [this] at h
theorem WR.nothing (w:World):WR iM [] 0 w:=⟨λ_ _ _ _ h=>(by cases h),λ_ _ h=>(by cases h),λ_ _ h=>(by cases h),λ_ _ h=>(by cases h)⟩
theorem jP.call {f:Nat} {args:List V} {v:V} (h:jP P f args v) (K:V.flats args=true) (H:List (Nat×Blk)) (fr:Nat):Eb P f args H fr { val:=v }:=by
 intro ι nb w W E U _ _ Y;refine (h w W (U.mono λb q h=>by cases h) (VRs.flat _ _ K Y)).mono λe w' ⟨x,F,G,C⟩=>?_;subst F;have Q:=C.size;refine ⟨ι,λ_ _ _=>rfl,λb q F=>by simp [isIn] at F,λb q F G=>by simp at G;omega,λ_ _ h _=>h,?_,?_,rfl,VR.mono (λ_ _ h=>by cases h) _ _ G⟩
 ·simp only [ek,rq];refine ⟨E.inj,λb r J=>?_,λb r J=>?_,λb blk hl O=>?_⟩
  ·have:=E.low b r J;omega
  ·have:=E.dom b r J;omega
  ·exact (E.blk b blk hl O).map rfl (λq X=>C.blk q.r (E.dom b q X) (λ_ _ h=>by cases h)) (λ_ _ x=>x) (λ_ x=>x)
 ·refine ⟨C.os,C.tape,C.output,C.size,λk Z _=>C.blk k Z (λ_ _ h=>by cases h)⟩
end Go.Abs
