
/- The interpreter is sound: regions, code, functions.
   Conditions: none; generic over the program. -/
import Derived.Test.YtaogbalpingjhaaGreatDoorAbsCut
import Derived.LoopN
import Derived.Scope
set_option linter.unusedSimpArgs false
set_option linter.unusedVariables false
namespace Go.Abs
variable {P:Program}
theorem rl {α:Type} {E:List Ent} (i:∀x∈E,cD P x) {n:Nat} {ι0:Inj} {w0:Base} {ops:List Oper} {k:Ex->St->Option α} {z:α}:
  ∀(l:List Oper) (s:St) (ι:Inj) (a:Act) (w:World),Inv n ι0 w0 ι s a w->vG P E n ops l s k=some z->
   wpList P ops.toArray (Post n ι0 w0 λex f=>k ex f=some z) l a w
 | [],s,ι,a,w,m,h=>⟨.normal,s,ι,rfl,m,h⟩
 | o::l,s,ι,a,w,m,h=>by
  simp only [vG] at h;obtain ⟨g,f,h,d,p,_⟩:=Bn m h;unfold wpList;cases g
  ·simp only at h;rw [p];simp only [bT,aE];split at h
   ·rename_i u;exact rl i l _ ι _ w (d.skip u) h
   ·cases h
  ·simp only at h;rw [p];simp only [aY];exact .inl (uh i d (λb r=>d.fresh b r) (aL _) h (λf e q w' j c=>rl i l f e q w' c j)
    (λv f e x q w' j t c=>⟨.pan v,f,e,⟨x,rfl,t⟩,c,j⟩))
theorem ko {α:Type} {E:List Ent} (r:∀x∈E,cD P x) {L:List Sub} {n:Nat}:∀(c:AC) (s:St) (k:Ex->St->Option α) (z:α),fF P n L c->run P E L n c s k=some z->
  SemC P n c.code s λex g=>k ex g=some z
 | .skip,s,k,z,_,h=>λι0 w0 ι a w o=>wp_skip ⟨.normal,s,ι,rfl,o,h⟩
 | .ret,s,k,z,_,h=>λι0 w0 ι a w o=>wp_ret ⟨.ret,s,ι,rfl,o,h⟩
 | .exit id,s,k,z,_,h=>λι0 w0 ι a w o=>wp_exit ⟨.exit id,s,ι,rfl,o,h⟩
 | .seq x y,s,k,z,p,h=>by
  intro ι0 w0 ι a w o;simp only [fF] at p;simp only [run] at h;refine wp_seq (wp_mono (ko r x s _ z p.1 h ι0 w0 ι a w o) ?_);rintro e A w' ⟨ex,g,d,f,q,j⟩;cases ex with
  | normal=>simp only [ExR] at f;subst f;exact ko r y g k z p.2 j ι0 w0 d A w' q
  | exit id=>simp only [ExR] at f;subst f;exact ⟨.exit id,g,d,rfl,q,j⟩
  | ret=>simp only [ExR] at f;subst f;exact ⟨.ret,g,d,rfl,q,j⟩
  | pan v=>obtain ⟨x,rfl,t⟩:=f;exact ⟨.pan v,g,d,⟨x,rfl,t⟩,q,j⟩
 | .cond c x y,s,k,z,p,h=>by
  intro ι0 w0 ι a w o;simp only [fF] at p;simp only [run] at h;split at h
  ·rename_i b u;have B:=aP o.tmps u;simp only [VR] at B;cases b
   ·exact wp_cond_false B (ko r y s k z p.2 h ι0 w0 ι a w o)
   ·exact wp_cond_true B (ko r x s k z p.1 h ι0 w0 ι a w o)
  ·cases h
 | .block id x,s,k,z,p,h=>by
  intro ι0 w0 ι a w o;simp only [fF] at p;simp only [run] at h;refine wp_block (wp_mono (ko r x s _ z p h ι0 w0 ι a w o) ?_);rintro e A w' ⟨ex,g,d,f,q,j⟩;cases ex with
  | normal=>simp only [ExR] at f;subst f;exact ⟨.normal,g,d,rfl,q,j⟩
  | exit i=>
   simp only [ExR] at f;subst f;simp only [Exit.inBlock];cases u:Nat.beq i id with
   | true=>
    simp only [u] at j;rw [ad (aS u)];exact ⟨.normal,g,d,rfl,q,j⟩
   | false=>
    simp only [u] at j;rw [ab (by rintro rfl;simp at u)];exact ⟨.exit i,g,d,rfl,q,j⟩
  | ret=>simp only [ExR] at f;subst f;exact ⟨.ret,g,d,rfl,q,j⟩
  | pan v=>obtain ⟨x,rfl,t⟩:=f;exact ⟨.pan v,g,d,⟨x,rfl,t⟩,q,j⟩
 | .reg id ops,s,k,z,_,h=>λι0 w0 ι a w o=>wp_region_lit (rl r ops s ι a w o h)
 | .draw id ops,s,k,z,_,h=>ED r h id
 | .sub m c,s,k,z,p,h=>by
  simp only [fF] at p;simp only [run] at h;exact p α s k z h
 | .loop c,s,k,z,p,h=>by
  simp only [fF] at p;simp only [run] at h;intro ι0 w0 ι a w o;refine wp_loop_rounds 12 ?_;generalize 12=m at h
  induction m generalizing s ι a w with
  | zero=>simp [Fh] at h
  | succ m ih=>
   rw [rounds_succ];simp only [Fh] at h;refine om ?_ (ko r c s _ z p h ι0 w0 ι a w o);rintro e A w' ⟨ex,g,d,f,q,j⟩;cases ex with
   | normal=>simp only [ExR] at f;subst f;exact ih g d A w' (by assumption) (by assumption)
   | exit id=>simp only [ExR] at f;subst f;exact ⟨.exit id,g,d,rfl,q,j⟩
   | ret=>simp only [ExR] at f;subst f;exact ⟨.ret,g,d,rfl,q,j⟩
   | pan v=>obtain ⟨x,rfl,t⟩:=f;exact ⟨.pan v,g,d,⟨x,rfl,t⟩,q,j⟩
 | .scope c,s,k,z,p,h=>by
  simp only [fF] at p;simp only [run] at h;intro ι0 w0 ι a w o;refine wp_scope_straight (om ?_ (ko r c s _ z p h ι0 w0 ι a w o));rintro e A w' ⟨ex,g,d,f,q,j⟩;cases ex with
  | normal=>simp only [ExR] at f;subst f;exact ⟨.normal,g,d,rfl,q,j⟩
  | exit id=>simp only [ExR] at f;subst f;exact ⟨.exit id,g,d,rfl,q,j⟩
  | ret=>simp only [ExR] at f;subst f;exact ⟨.ret,g,d,rfl,q,j⟩
  | pan v=>obtain ⟨x,rfl,t⟩:=f;exact ⟨.pan v,g,d,⟨x,rfl,t⟩,q,j⟩
 | .label l,s,k,z,_,h=>λι0 w0 ι a w o=>wp_label ⟨.normal,s,ι,rfl,o,h⟩
 | .bad c,s,k,z,_,h=>by simp [run] at h
def ng:List V->Nat->List (Nat×Option V)
 | [],_=>[]
 | v::l,j=>(j,some v)::ng l (j+1)
def retK {α:Type} (P:Program):List ResultVar->St->(List V->Option α)->Option α
 | [],_,c=>c []
 | .tmp t::r,s,c=>match look s.T t with
  | some (some v)=>retK P r s λl=>c (v::l)
  | _=>none
 | .cell t a::r,s,c=>match look s.T t with
  | some (some (.p b o))=>match look s.H b with
   | some blk=>sq P a blk o λv=>retK P r s λl=>c (v::l)
   | none=>none
  | _=>none
def Bq:List V->V
 | [v]=>v
 | l=>.tp l
def finK {α:Type} (P:Program) (a:List ResultVar) (K:Bool->V->St->Option α):Ex->St->Option α
 | .normal,s=>retK P a s λl=>K false (Bq l) s
 | .ret,s=>retK P a s λl=>K false (Bq l) s
 | .pan v,s=>K true v s
 | .exit _,_=>none
theorem me:∀(l:List V) (j t:Nat),look (ng l j) t=if j<=t then (l[t - j]?).map some else none
 | [],j,t=>by simp [ng,look]
 | v::l,j,t=>by
  simp only [ng,aF,me l (j+1) t];by_cases h:j=t
  ·subst h;simp
  ·simp only [h,aE];by_cases a:j<=t
   ·rw [ad (by omega),ad a,show t - j=(t - (j+1))+1 by omega];rfl
   ·rw [ab (by omega),ab a]
def FA (b:Array Value):ResultVar->Sem Value
 | .tmp t=>pure (b.getD t undef)
 | .cell a t=>do loadVar t (<-asAddr (b.getD a undef))
theorem sF (fn:Func) (b:Array Value):results fn b=(do
  let a <-fn.results.mapM (FA b)
  pure (if h:a.size=1 then a[0] else .tuple a)):=by
 unfold results;congr 2
theorem wR {α:Type} {n:Nat} {ι0 ι:Inj} {w0:Base} {s:St} {a:Act} {w:World} (f:Inv n ι0 w0 ι s a w):∀(e:List ResultVar) (c:List V->Option α) (z:α),retK P e s c=some z->
  ∃l d,c l=some z/\VRs ι l d/\(e.mapM (FA a.tmps)).run P w=.ok d w
 | [],c,z,h=>⟨[],[],h,by simp [VRs],rfl⟩
 | .tmp t::e,c,z,h=>by
  simp only [retK] at h;split at h
  ·rename_i v j;obtain ⟨x,p,g⟩:=f.tmps t v j;obtain ⟨l,d,i,k,q⟩:=wR f e _ z h;refine ⟨v::l,x::d,i,by simp only [VRs];exact ⟨x,d,rfl,g,k⟩,?_⟩;have u:a.tmps.getD t undef=x:=by rw [lB,p];rfl
   simp only [xI,FA,ak,au,aq,q,u]
  ·cases h
 | .cell t E::e,c,z,h=>by
  simp only [retK] at h;split at h
  ·rename_i b o j;obtain ⟨x,p,g⟩:=f.tmps t _ j;split at h
   ·rename_i blk A;obtain ⟨v,X,r,D,C,F,B⟩:=yZ f.mem A h;obtain ⟨l,d,i,k,q⟩:=wR f e _ z D;refine ⟨v::l,X::d,i,by simp only [VRs];exact ⟨X,d,rfl,B,k⟩,?_⟩;simp only [VR] at g;obtain ⟨G,y,rfl⟩:=g;rw [C] at y;cases y;have u:a.tmps.getD t undef=.pointer (some ⟨r.r,o,none⟩):=by rw [lB,p];rfl
    have m:(loadVar E ⟨r.r,o,none⟩).run P w=.ok X w:=by
     simpa only [Instr.loadAt,Instr.sureAddr,ak,au,aq] using F
    simp only [xI,FA,ak,aq,q,u,asAddr,au,m]
   ·cases h
  ·cases h
theorem Ew {ι:Inj} {l:List V} {a:List Value} (h:VRs ι l a):VR ι (Bq l) (if h:a.toArray.size=1 then a.toArray[0] else .tuple a.toArray):=by
 have d:=h.length;unfold Bq;split
 ·rename_i v;simp only [VRs] at h;obtain ⟨y,e,rfl,b,rfl⟩:=h;simpa using b
 ·rename_i c;have:¬a.toArray.size=1:=by
   intro b;simp only [qD] at b;rw [d] at b
   match l,b with
   | [v],_=>exact c v rfl
  rw [dif_neg this];simp only [VR];exact ⟨_,rfl,by simpa using h⟩
theorem sU {α:Type} {fn:Func} {n:Nat} {ι0 ι:Inj} {w0:Base} {s:St} {a:Act} {w:World} (e:Inv n ι0 w0 ι s a w) {c:V->Option α} {z:α}
  (h:retK P fn.results.toList s (λl=>c (Bq l))=some z):∃v x,c v=some z/\VR ι v x/\(results fn a.tmps).run P w=.ok x w:=by
 obtain ⟨l,g,d,f,b⟩:=wR e _ _ _ h;refine ⟨_,_,d,Ew f,?_⟩;rw [sF,Gv];simp only [ak,Sem.run_map,b,aq,au]
def tP {α:Type} (P:Program) (f:Nat) (args:List V) (H0:List (Nat×Blk)) (nb0 ro:Nat) (K:Bool->V->St->Option α) (z:α):Prop:=
 ∀(ι0:Inj) (w:World) (a:Array Value),WR ι0 H0 nb0 w->(∀b q,ι0 b=some (some q)->q.fz=true->b<ro)->GL (roI ι0 ro) w->VRs ι0 args a.toList->
  Calls P f a w λe w'=>∃(pan:Bool) (v:V) (s:St) (ι:Inj),K pan v s=some z/\(∀b q,ι0 b=some q->ι b=some q\/s.rb<=b)/\(∀b q,ι b=some (some q)->(∃c,ι0 b=some (some c)/\c.r=q.r)\/w.heap.size<=q.r)/\
   WR ι s.H s.nb w'/\(∀b q,ι b=some (some q)->q.fz=true->b<s.ro)/\Fr (roI ι0 s.ro) w w'/\RetR ι { val:=v,pan:=pan } e
theorem Dp {α:Type} {E:List Ent} (J:∀x∈E,cD P x) {L:List Sub} {f:Nat} {fn:Func} {c:Code} {ac:AC} (O:P.funcs[f]?=some fn) (I:fn.body=some c) (hc:ac.code=c)
  (R:fF P fn.ntmps L ac) {args:List V} {H0:List (Nat×Blk)} {nb0 ro rb:Nat} {K:Bool->V->St->Option α} {z:α} (D:Nat.ble args.length fn.ntmps=true)
  (h:run P E L fn.ntmps ac ⟨ng args 0,H0,nb0,nb0,ro,rb⟩ (finK P fn.results.toList K)=some z) (ι0:Inj) (w:World) (d:Array Value) (G:WR ι0 H0 nb0 w) (A:∀b q,ι0 b=some (some q)->q.fz=true->b<ro) (C:GL (roI ι0 ro) w) (o:VRs ι0 args d.toList):
  Calls P f d w λe w'=>∃(pan:Bool) (v:V) (s:St) (ι:Inj),K pan v s=some z/\(∀b q,ι0 b=some q->ι b=some q\/s.rb<=b)/\(∀b q,ι b=some (some q)->(∃j,ι0 b=some (some j)/\j.r=q.r)\/w.heap.size<=q.r)/\
   WR ι s.H s.nb w'/\(∀b q,ι b=some (some q)->q.fz=true->b<s.ro)/\Fr (roI ι0 s.ro) w w'/\RetR ι { val:=v,pan:=pan } e:=by
 have F:d.size=args.length:=by simpa using o.length
 have D:=ax D;refine calls_of_wp O I ?_;rw [<-hc];have S:Inv fn.ntmps ι0 ⟨w,[]⟩ ι0 ⟨ng args 0,H0,nb0,nb0,ro,rb⟩ { tmps:=d++Array.replicate (fn.ntmps - d.size) undef,defers:=[] } w:=by
  refine ⟨by simp;omega,rfl,λt v l=>?_,G,λ_ _ h=>.inl h,λ_ q h=>.inl ⟨q,h,rfl⟩,Fr.refl _ _,λb r h=>G.low b r h,A,C⟩;rw [me,ad (mQ _)] at l;simp only [qN] at l;cases B:args[t]? with
  | none=>simp [B] at l
  | some u=>
   simp only [B,cK,ae] at l;subst l;obtain ⟨x,i,a⟩:=o.get B;have h1':d[t]?=some x:=by simpa using i
   have y:t<d.size:=by
    rcases aA t d.size with p | p
    ·exact p
    ·rw [rH p] at h1';cases h1'
   exact ⟨x,by rw [Ik y];exact h1',a⟩
 refine om ?_ (ko J ac _ _ z R h ι0 ⟨w,[]⟩ ι0 _ w S);rintro e T w' ⟨ex,n,m,i,a,g⟩;have k:finK P fn.results.toList K .ret n=some z->∃v,(results fn T.tmps).run P w'=.ok v w'/\∃(pan:Bool) (u:V) (s:St) (ι:Inj),K pan u s=some z/\(∀b q,ι0 b=some q->ι b=some q\/s.rb<=b)/\(∀b q,ι b=some (some q)->(∃j,ι0 b=some (some j)/\j.r=q.r)\/w.heap.size<=q.r)/\
   WR ι s.H s.nb w'/\(∀b q,ι b=some (some q)->q.fz=true->b<s.ro)/\Fr (roI ι0 s.ro) w w'/\RetR ι { val:=u,pan:=pan } (.returned v):=by
  intro g;simp only [finK] at g;obtain ⟨v,x,N,M,Q⟩:=sU (fn:=fn) (c:=λv=>K false v n) a g;exact ⟨x,Q,false,v,n,m,N,a.ext,a.new,a.mem,a.fz,a.fr,rfl,M⟩
 cases ex with
 | normal=>
  simp only [ExR] at i;subst i;exact ⟨a.defers,k g⟩
 | ret=>
  simp only [ExR] at i;subst i;exact ⟨a.defers,k g⟩
 | exit id=>simp [finK] at g
 | pan v=>
  obtain ⟨x,rfl,o⟩:=i;exact ⟨a.defers,true,v,n,m,g,a.ext,a.new,a.mem,a.fz,a.fr,rfl,x,rfl,o⟩
mutual
def V.flat:V->Bool
 | .b _ | .i _ _ | .s _ | .pn | .sn | .nf | .ni | .ai _ _ _ | .unk=>true
 | .p _ _ | .sl _ _ _ _ | .pr _ _ _ _ | .ws _ | .rs _ _ _ _ _ | .mp _=>false
 | .fn _ l | .ag l | .tp l=>V.flats l
 | .it _ v=>V.flat v
def V.flats:List V->Bool
 | []=>true
 | v::l=>V.flat v&&V.flats l
end
mutual
theorem VR.flat {ι J:Inj}:∀(v:V) (x:Value),V.flat v=true->VR ι v x->VR J v x
 | .b _,_,_,A | .i _ _,_,_,A | .s _,_,_,A | .pn,_,_,A | .sn,_,_,A | .nf,_,_,A | .ni,_,_,A | .ai _ _ _,_,_,A | .unk,_,_,A=>by simpa only [VR] using A
 | .p b o,x,C,A=>by simp [V.flat] at C
 | .mp b,x,C,A=>by simp [V.flat] at C
 | .pr z b j o,x,C,A=>by simp [V.flat] at C
 | .ws b,x,C,A=>by simp [V.flat] at C
 | .rs z b j n _,x,C,A=>by simp [V.flat] at C
 | .sl b o len cap,x,C,A=>by simp [V.flat] at C
 | .fn f cap,x,C,A=>by
  simp only [V.flat] at C;simp only [VR] at A ⊢;obtain ⟨G,E,F⟩:=A;exact ⟨G,E,VRs.flat _ _ C F⟩
 | .it t v,x,C,A=>by
  simp only [V.flat] at C;simp only [VR] at A ⊢;obtain ⟨y,E,F⟩:=A;exact ⟨y,E,VR.flat _ _ C F⟩
 | .ag l,x,C,A=>by
  simp only [V.flat] at C;simp only [VR] at A ⊢;obtain ⟨G,E,F⟩:=A;exact ⟨G,E,VRs.flat _ _ C F⟩
 | .tp l,x,C,A=>by
  simp only [V.flat] at C;simp only [VR] at A ⊢;obtain ⟨G,E,F⟩:=A;exact ⟨G,E,VRs.flat _ _ C F⟩
theorem VRs.flat {ι F:Inj}:∀(l:List V) (C:List Value),V.flats l=true->VRs ι l C->VRs F l C
 | [],_,_,A=>by simpa [VRs] using A
 | v::l,C,E,A=>by
  simp only [V.flats,av] at E;simp only [VRs] at A ⊢;obtain ⟨y,K,J,M,G⟩:=A;exact ⟨y,K,J,VR.flat _ _ E.1 M,VRs.flat _ _ E.2 G⟩
end
def dH:Inj:=λ_=>none
def f7 (P:Program) (f:Nat) (args:List V) (v:V):Prop:=
 ∀(w:World) (a:Array Value),GL dH w->VRs dH args a.toList->Calls P f a w λe w'=>∃x,e=.returned x/\VR dH v x/\Fr dH w w'
theorem CJ {ro:Nat} {w w':World} (h:Fr (roI dH ro) w w'):Fr dH w w':=by
 have:roI dH ro=dH:=by
  funext b;unfold roI dH;cases Nat.blt b ro<;>rfl
 rwa [this] at h
theorem WR.nothing (w:World):WR dH [] 0 w:=⟨λ_ _ _ _ h=>(by cases h),λ_ _ h=>(by cases h),λ_ _ h=>(by cases h),λ_ _ h=>(by cases h)⟩
theorem f7.call {f:Nat} {args:List V} {v:V} (h:f7 P f args v) (M:V.flats args=true) (H:List (Nat×Blk)) (fr:Nat):yc P f args H fr { val:=v }:=by
 intro ι nb w J C K _ _ Y;refine (h w J (K.mono λb q h=>by cases h) (VRs.flat _ _ M Y)).mono λe w' ⟨x,E,G,A⟩=>?_;subst E;have O:=A.size;refine ⟨ι,λ_ _ _=>rfl,λb q E=>by simp [isIn] at E,λb q E G=>by simp at G;omega,λ_ _ h _=>h,?_,?_,rfl,VR.mono (λ_ _ h=>by cases h) _ _ G⟩
 ·simp only [jt,nK];refine ⟨C.inj,λb r F=>?_,λb r F=>?_,λb blk U X=>?_⟩
  ·have:=C.low b r F;omega
  ·have:=C.dom b r F;omega
  ·exact (C.blk b blk U X).map rfl (λq W=>A.blk q.r (C.dom b q W) (λ_ _ h=>by cases h)) (λ_ _ x=>x) (λ_ x=>x)
 ·refine ⟨A.os,A.tape,A.output,A.size,λk Q _=>A.blk k Q (λ_ _ h=>by cases h)⟩
end Go.Abs
