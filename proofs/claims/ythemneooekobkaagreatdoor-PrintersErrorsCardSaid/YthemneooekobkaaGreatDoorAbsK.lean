
/- The interpreter is sound: regions, code, functions.
   Conditions: none; generic over the program. -/
import Derived.Test.YthemneooekobkaaGreatDoorAbsCut
import Derived.LoopN
import Derived.Scope
set_option linter.unusedSimpArgs false
set_option linter.unusedVariables false
namespace Go.Abs
variable {P:Program}
theorem ut {α:Type} {E:List Ent} (m:∀x∈E,ek P x) {n:Nat} {ι0:Inj} {w0:Base} {ops:List Oper} {k:Ex->St->Option α} {z:α}:
  ∀(l:List Oper) (s:St) (ι:Inj) (a:Act) (w:World),Inv n ι0 w0 ι s a w->zi P E n ops l s k=some z->
   wpList P ops.toArray (Post n ι0 w0 λex f=>k ex f=some z) l a w
 | [],s,ι,a,w,i,h=>⟨.normal,s,ι,rfl,i,h⟩
 | o::l,s,ι,a,w,i,h=>by
  simp only [zi] at h;obtain ⟨g,f,h,d,p,_⟩:=Jm i h;unfold wpList;cases g
  ·simp only at h;rw [p];simp only [cE,aG];split at h
   ·rename_i r;exact ut m l _ ι _ w (d.skip r) h
   ·cases h
  ·simp only at h;rw [p];simp only [aY];exact .inl (yJ m d (λb u=>d.fresh b u) (aW _) h (λf e q w' j c=>ut m l f e q w' c j)
    (λv f e x q w' j t c=>⟨.pan v,f,e,⟨x,rfl,t⟩,c,j⟩))
theorem mL {α:Type} {E:List Ent} (q:∀x∈E,ek P x) {L:List Sub} {n:Nat}:∀(c:AC) (s:St) (k:Ex->St->Option α) (z:α),iW P n L c->run P E L n c s k=some z->
  SemC P n c.code s λex g=>k ex g=some z
 | .skip,s,k,z,_,h=>λι0 w0 ι a w o=>wp_skip ⟨.normal,s,ι,rfl,o,h⟩
 | .ret,s,k,z,_,h=>λι0 w0 ι a w o=>wp_ret ⟨.ret,s,ι,rfl,o,h⟩
 | .exit id,s,k,z,_,h=>λι0 w0 ι a w o=>wp_exit ⟨.exit id,s,ι,rfl,o,h⟩
 | .seq x y,s,k,z,hs,h=>by
  intro ι0 w0 ι a w o;simp only [iW] at hs;simp only [run] at h;refine wp_seq (wp_mono (mL q x s _ z hs.1 h ι0 w0 ι a w o) ?_);rintro e t w' ⟨ex,g,d,f,p,j⟩;cases ex with
  | normal=>simp only [ExR] at f;subst f;exact mL q y g k z hs.2 j ι0 w0 d t w' p
  | exit id=>simp only [ExR] at f;subst f;exact ⟨.exit id,g,d,rfl,p,j⟩
  | ret=>simp only [ExR] at f;subst f;exact ⟨.ret,g,d,rfl,p,j⟩
  | pan v=>obtain ⟨x,rfl,hx⟩:=f;exact ⟨.pan v,g,d,⟨x,rfl,hx⟩,p,j⟩
 | .cond c x y,s,k,z,hs,h=>by
  intro ι0 w0 ι a w o;simp only [iW] at hs;simp only [run] at h;split at h
  ·rename_i b r;have u:=bh o.tmps r;simp only [VR] at u;cases b
   ·exact wp_cond_false u (mL q y s k z hs.2 h ι0 w0 ι a w o)
   ·exact wp_cond_true u (mL q x s k z hs.1 h ι0 w0 ι a w o)
  ·cases h
 | .block id x,s,k,z,hs,h=>by
  intro ι0 w0 ι a w o;simp only [iW] at hs;simp only [run] at h;refine wp_block (wp_mono (mL q x s _ z hs h ι0 w0 ι a w o) ?_);rintro e t w' ⟨ex,g,d,f,p,j⟩;cases ex with
  | normal=>simp only [ExR] at f;subst f;exact ⟨.normal,g,d,rfl,p,j⟩
  | exit i=>
   simp only [ExR] at f;subst f;simp only [Exit.inBlock];cases r:Nat.beq i id with
   | true=>
    simp only [r] at j;rw [ad (bm r)];exact ⟨.normal,g,d,rfl,p,j⟩
   | false=>
    simp only [r] at j;rw [ab (by rintro rfl;simp at r)];exact ⟨.exit i,g,d,rfl,p,j⟩
  | ret=>simp only [ExR] at f;subst f;exact ⟨.ret,g,d,rfl,p,j⟩
  | pan v=>obtain ⟨x,rfl,hx⟩:=f;exact ⟨.pan v,g,d,⟨x,rfl,hx⟩,p,j⟩
 | .reg id ops,s,k,z,_,h=>λι0 w0 ι a w o=>wp_region_lit (ut q ops s ι a w o h)
 | .draw id ops,s,k,z,_,h=>MC q h id
 | .sub m c,s,k,z,hs,h=>by
  simp only [iW] at hs;simp only [run] at h;exact hs α s k z h
 | .loop c,s,k,z,hs,h=>by
  simp only [iW] at hs;simp only [run] at h;intro ι0 w0 ι a w o;refine wp_loop_rounds 12 ?_;generalize 12=m at h
  induction m generalizing s ι a w with
  | zero=>simp [LZ] at h
  | succ m ih=>
   rw [rounds_succ];simp only [LZ] at h;refine rA ?_ (mL q c s _ z hs h ι0 w0 ι a w o);rintro e t w' ⟨ex,g,d,f,p,j⟩;cases ex with
   | normal=>simp only [ExR] at f;subst f;exact ih g d t w' (by assumption) (by assumption)
   | exit id=>simp only [ExR] at f;subst f;exact ⟨.exit id,g,d,rfl,p,j⟩
   | ret=>simp only [ExR] at f;subst f;exact ⟨.ret,g,d,rfl,p,j⟩
   | pan v=>obtain ⟨x,rfl,hx⟩:=f;exact ⟨.pan v,g,d,⟨x,rfl,hx⟩,p,j⟩
 | .scope c,s,k,z,hs,h=>by
  simp only [iW] at hs;simp only [run] at h;intro ι0 w0 ι a w o;refine wp_scope_straight (rA ?_ (mL q c s _ z hs h ι0 w0 ι a w o));rintro e t w' ⟨ex,g,d,f,p,j⟩;cases ex with
  | normal=>simp only [ExR] at f;subst f;exact ⟨.normal,g,d,rfl,p,j⟩
  | exit id=>simp only [ExR] at f;subst f;exact ⟨.exit id,g,d,rfl,p,j⟩
  | ret=>simp only [ExR] at f;subst f;exact ⟨.ret,g,d,rfl,p,j⟩
  | pan v=>obtain ⟨x,rfl,hx⟩:=f;exact ⟨.pan v,g,d,⟨x,rfl,hx⟩,p,j⟩
 | .label l,s,k,z,_,h=>λι0 w0 ι a w o=>wp_label ⟨.normal,s,ι,rfl,o,h⟩
 | .bad c,s,k,z,_,h=>by simp [run] at h
def qU:List V->Nat->List (Nat×Option V)
 | [],_=>[]
 | v::l,j=>(j,some v)::qU l (j+1)
def retK {α:Type} (P:Program):List ResultVar->St->(List V->Option α)->Option α
 | [],_,c=>c []
 | .tmp t::r,s,c=>match look s.T t with
  | some (some v)=>retK P r s λl=>c (v::l)
  | _=>none
 | .cell t a::r,s,c=>match look s.T t with
  | some (some (.p b o))=>match look s.H b with
   | some blk=>wx P a blk o λv=>retK P r s λl=>c (v::l)
   | none=>none
  | _=>none
def Gv:List V->V
 | [v]=>v
 | l=>.tp l
def finK {α:Type} (P:Program) (a:List ResultVar) (K:Bool->V->St->Option α):Ex->St->Option α
 | .normal,s=>retK P a s λl=>K false (Gv l) s
 | .ret,s=>retK P a s λl=>K false (Gv l) s
 | .pan v,s=>K true v s
 | .exit _,_=>none
theorem pL:∀(l:List V) (j t:Nat),look (qU l j) t=if j<=t then (l[t - j]?).map some else none
 | [],j,t=>by simp [qU,look]
 | v::l,j,t=>by
  simp only [qU,aP,pL l (j+1) t];by_cases h:j=t
  ·subst h;simp
  ·simp only [h,aG];by_cases a:j<=t
   ·rw [ad (by omega),ad a,show t - j=(t - (j+1))+1 by omega];rfl
   ·rw [ab (by omega),ab a]
def J6 (b:Array Value):ResultVar->Sem Value
 | .tmp t=>pure (b.getD t undef)
 | .cell a t=>do loadVar t (<-asAddr (b.getD a undef))
theorem xB (fn:Func) (b:Array Value):results fn b=(do
  let a <-fn.results.mapM (J6 b)
  pure (if h:a.size=1 then a[0] else .tuple a)):=by
 unfold results;congr 2
theorem Cm {α:Type} {n:Nat} {ι0 ι:Inj} {w0:Base} {s:St} {a:Act} {w:World} (f:Inv n ι0 w0 ι s a w):∀(e:List ResultVar) (c:List V->Option α) (z:α),retK P e s c=some z->
  ∃l d,c l=some z/\VRs ι l d/\(e.mapM (J6 a.tmps)).run P w=.ok d w
 | [],c,z,h=>⟨[],[],h,by simp [VRs],rfl⟩
 | .tmp t::e,c,z,h=>by
  simp only [retK] at h;split at h
  ·rename_i v k;obtain ⟨x,q,g⟩:=f.tmps t v k;obtain ⟨l,d,i,m,j⟩:=Cm f e _ z h;refine ⟨v::l,x::d,i,by simp only [VRs];exact ⟨x,d,rfl,g,m⟩,?_⟩;have hx:a.tmps.getD t undef=x:=by rw [oS,q];rfl
   simp only [uC,J6,av,az,ax,j,hx]
  ·cases h
 | .cell t D::e,c,z,h=>by
  simp only [retK] at h;split at h
  ·rename_i b o k;obtain ⟨x,q,g⟩:=f.tmps t _ k;split at h
   ·rename_i blk E;obtain ⟨v,X,r,A,C,y,B⟩:=En f.mem E h;obtain ⟨l,d,i,m,j⟩:=Cm f e _ z A;refine ⟨v::l,X::d,i,by simp only [VRs];exact ⟨X,d,rfl,B,m⟩,?_⟩;simp only [VR] at g;obtain ⟨F,u,rfl⟩:=g;rw [C] at u;cases u;have hx:a.tmps.getD t undef=.pointer (some ⟨r.r,o,none⟩):=by rw [oS,q];rfl
    have p:(loadVar D ⟨r.r,o,none⟩).run P w=.ok X w:=by
     simpa only [Instr.loadAt,Instr.sureAddr,av,az,ax] using y
    simp only [uC,J6,av,ax,j,hx,asAddr,az,p]
   ·cases h
  ·cases h
theorem KC {ι:Inj} {l:List V} {a:List Value} (h:VRs ι l a):VR ι (Gv l) (if h:a.toArray.size=1 then a.toArray[0] else .tuple a.toArray):=by
 have c:=h.length;unfold Gv;split
 ·rename_i v;simp only [VRs] at h;obtain ⟨y,e,rfl,b,rfl⟩:=h;simpa using b
 ·rename_i d;have:¬a.toArray.size=1:=by
   intro b;simp only [vU] at b;rw [c] at b
   match l,b with
   | [v],_=>exact d v rfl
  rw [dif_neg this];simp only [VR];exact ⟨_,rfl,by simpa using h⟩
theorem wH {α:Type} {fn:Func} {n:Nat} {ι0 ι:Inj} {w0:Base} {s:St} {a:Act} {w:World} (e:Inv n ι0 w0 ι s a w) {c:V->Option α} {z:α}
  (h:retK P fn.results.toList s (λl=>c (Gv l))=some z):∃v x,c v=some z/\VR ι v x/\(results fn a.tmps).run P w=.ok x w:=by
 obtain ⟨l,g,f,b,d⟩:=Cm e _ _ _ h;refine ⟨_,_,f,KC b,?_⟩;rw [xB,Nh];simp only [av,Sem.run_map,d,ax,az]
def za {α:Type} (P:Program) (f:Nat) (args:List V) (H0:List (Nat×Blk)) (nb0 ro:Nat) (K:Bool->V->St->Option α) (z:α):Prop:=
 ∀(ι0:Inj) (w:World) (a:Array Value),WR ι0 H0 nb0 w->(∀b q,ι0 b=some (some q)->q.fz=true->b<ro)->GL (roI ι0 ro) w->VRs ι0 args a.toList->
  Calls P f a w λe w'=>∃(pan:Bool) (v:V) (s:St) (ι:Inj),K pan v s=some z/\(∀b q,ι0 b=some q->ι b=some q\/s.rb<=b)/\(∀b q,ι b=some (some q)->(∃c,ι0 b=some (some c)/\c.r=q.r)\/w.heap.size<=q.r)/\
   WR ι s.H s.nb w'/\(∀b q,ι b=some (some q)->q.fz=true->b<s.ro)/\Fr (roI ι0 s.ro) w w'/\RetR ι { val:=v,pan:=pan } e
theorem GZ {α:Type} {E:List Ent} (Q:∀x∈E,ek P x) {L:List Sub} {f:Nat} {fn:Func} {c:Code} {ac:AC} (J:P.funcs[f]?=some fn) (O:fn.body=some c) (hc:ac.code=c)
  (R:iW P fn.ntmps L ac) {args:List V} {H0:List (Nat×Blk)} {nb0 ro rb:Nat} {K:Bool->V->St->Option α} {z:α} (C:Nat.ble args.length fn.ntmps=true)
  (h:run P E L fn.ntmps ac ⟨qU args 0,H0,nb0,nb0,ro,rb⟩ (finK P fn.results.toList K)=some z) (ι0:Inj) (w:World) (d:Array Value) (F:WR ι0 H0 nb0 w) (B:∀b q,ι0 b=some (some q)->q.fz=true->b<ro) (o:GL (roI ι0 ro) w) (hx:VRs ι0 args d.toList):
  Calls P f d w λe w'=>∃(pan:Bool) (v:V) (s:St) (ι:Inj),K pan v s=some z/\(∀b q,ι0 b=some q->ι b=some q\/s.rb<=b)/\(∀b q,ι b=some (some q)->(∃j,ι0 b=some (some j)/\j.r=q.r)\/w.heap.size<=q.r)/\
   WR ι s.H s.nb w'/\(∀b q,ι b=some (some q)->q.fz=true->b<s.ro)/\Fr (roI ι0 s.ro) w w'/\RetR ι { val:=v,pan:=pan } e:=by
 have D:d.size=args.length:=by simpa using hx.length
 have C:=aD C;refine calls_of_wp J O ?_;rw [<-hc];have M:Inv fn.ntmps ι0 ⟨w,[]⟩ ι0 ⟨qU args 0,H0,nb0,nb0,ro,rb⟩ { tmps:=d++Array.replicate (fn.ntmps - d.size) undef,defers:=[] } w:=by
  refine ⟨by simp;omega,rfl,λt v k=>?_,F,λ_ _ h=>.inl h,λ_ q h=>.inl ⟨q,h,rfl⟩,Fr.refl _ _,λb r h=>F.low b r h,B,o⟩;rw [pL,ad (qT _)] at k;simp only [vQ] at k;cases p:args[t]? with
  | none=>simp [p] at k
  | some u=>
   simp only [p,ee,am] at k;subst k;obtain ⟨x,i,a⟩:=hx.get p;have h1':d[t]?=some x:=by simpa using i
   have A:t<d.size:=by
    rcases aH t d.size with y | y
    ·exact y
    ·rw [tz y] at h1';cases h1'
   exact ⟨x,by rw [OJ A];exact h1',a⟩
 refine rA ?_ (mL Q ac _ _ z R h ι0 ⟨w,[]⟩ ι0 _ w M);rintro e G w' ⟨ex,n,l,i,a,g⟩;have m:finK P fn.results.toList K .ret n=some z->∃v,(results fn G.tmps).run P w'=.ok v w'/\∃(pan:Bool) (u:V) (s:St) (ι:Inj),K pan u s=some z/\(∀b q,ι0 b=some q->ι b=some q\/s.rb<=b)/\(∀b q,ι b=some (some q)->(∃j,ι0 b=some (some j)/\j.r=q.r)\/w.heap.size<=q.r)/\
   WR ι s.H s.nb w'/\(∀b q,ι b=some (some q)->q.fz=true->b<s.ro)/\Fr (roI ι0 s.ro) w w'/\RetR ι { val:=u,pan:=pan } (.returned v):=by
  intro g;simp only [finK] at g;obtain ⟨v,x,I,N,S⟩:=wH (fn:=fn) (c:=λv=>K false v n) a g;exact ⟨x,S,false,v,n,l,I,a.ext,a.new,a.mem,a.fz,a.fr,rfl,N⟩
 cases ex with
 | normal=>
  simp only [ExR] at i;subst i;exact ⟨a.defers,m g⟩
 | ret=>
  simp only [ExR] at i;subst i;exact ⟨a.defers,m g⟩
 | exit id=>simp [finK] at g
 | pan v=>
  obtain ⟨x,rfl,hx⟩:=i;exact ⟨a.defers,true,v,n,l,g,a.ext,a.new,a.mem,a.fz,a.fr,rfl,x,rfl,hx⟩
mutual
def V.flat:V->Bool
 | .b _ | .i _ _ | .s _ | .pn | .sn | .nf | .ni | .ai _ _ _ | .unk=>true
 | .p _ _ | .sl _ _ _ _ | .pr _ _ _ _ | .ws _ | .rs _ _ _ _ _ | .mp _=>false
 | .fn _ l | .ag l | .tp l=>V.flats l
 | .it _ v=>V.flat v
def V.flats:List V->Bool
 | []=>true
 | v::l=>V.flat v&&V.flats l
end
mutual
theorem VR.flat {ι G:Inj}:∀(v:V) (x:Value),V.flat v=true->VR ι v x->VR G v x
 | .b _,_,_,hx | .i _ _,_,_,hx | .s _,_,_,hx | .pn,_,_,hx | .sn,_,_,hx | .nf,_,_,hx | .ni,_,_,hx | .ai _ _ _,_,_,hx | .unk,_,_,hx=>by simpa only [VR] using hx
 | .p b o,x,A,hx=>by simp [V.flat] at A
 | .mp b,x,A,hx=>by simp [V.flat] at A
 | .pr z b j o,x,A,hx=>by simp [V.flat] at A
 | .ws b,x,A,hx=>by simp [V.flat] at A
 | .rs z b j n _,x,A,hx=>by simp [V.flat] at A
 | .sl b o len cap,x,A,hx=>by simp [V.flat] at A
 | .fn f cap,x,A,hx=>by
  simp only [V.flat] at A;simp only [VR] at hx ⊢;obtain ⟨F,E,C⟩:=hx;exact ⟨F,E,VRs.flat _ _ A C⟩
 | .it t v,x,A,hx=>by
  simp only [V.flat] at A;simp only [VR] at hx ⊢;obtain ⟨y,E,C⟩:=hx;exact ⟨y,E,VR.flat _ _ A C⟩
 | .ag l,x,A,hx=>by
  simp only [V.flat] at A;simp only [VR] at hx ⊢;obtain ⟨F,E,C⟩:=hx;exact ⟨F,E,VRs.flat _ _ A C⟩
 | .tp l,x,A,hx=>by
  simp only [V.flat] at A;simp only [VR] at hx ⊢;obtain ⟨F,E,C⟩:=hx;exact ⟨F,E,VRs.flat _ _ A C⟩
theorem VRs.flat {ι A:Inj}:∀(l:List V) (C:List Value),V.flats l=true->VRs ι l C->VRs A l C
 | [],_,_,hx=>by simpa [VRs] using hx
 | v::l,C,E,hx=>by
  simp only [V.flats,ay] at E;simp only [VRs] at hx ⊢;obtain ⟨y,J,M,F,G⟩:=hx;exact ⟨y,J,M,VR.flat _ _ E.1 F,VRs.flat _ _ E.2 G⟩
end
def fm:Inj:=λ_=>none
def lC (P:Program) (f:Nat) (args:List V) (v:V):Prop:=
 ∀(w:World) (a:Array Value),GL fm w->VRs fm args a.toList->Calls P f a w λe w'=>∃x,e=.returned x/\VR fm v x/\Fr fm w w'
theorem G6 {ro:Nat} {w w':World} (h:Fr (roI fm ro) w w'):Fr fm w w':=by
 have:roI fm ro=fm:=by
  funext b;unfold roI fm;cases Nat.blt b ro<;>rfl
 rwa [this] at h
theorem WR.nothing (w:World):WR fm [] 0 w:=⟨λ_ _ _ _ h=>(by cases h),λ_ _ h=>(by cases h),λ_ _ h=>(by cases h),λ_ _ h=>(by cases h)⟩
theorem lC.call {f:Nat} {args:List V} {v:V} (h:lC P f args v) (Y:V.flats args=true) (H:List (Nat×Blk)) (fr:Nat):Fe P f args H fr { val:=v }:=by
 intro ι nb w Q C O _ _ hx;refine (h w Q (O.mono λb q h=>by cases h) (VRs.flat _ _ Y hx)).mono λe w' ⟨x,E,G,A⟩=>?_;subst E;have X:=A.size;refine ⟨ι,λ_ _ _=>rfl,λb q E=>by simp [isIn] at E,λb q E G=>by simp at G;omega,λ_ _ h _=>h,?_,?_,rfl,VR.mono (λ_ _ h=>by cases h) _ _ G⟩
 ·simp only [ij,rL];refine ⟨C.inj,λb r F=>?_,λb r F=>?_,λb blk M J=>?_⟩
  ·have:=C.low b r F;omega
  ·have:=C.dom b r F;omega
  ·exact (C.blk b blk M J).map rfl (λq W=>A.blk q.r (C.dom b q W) (λ_ _ h=>by cases h)) (λ_ _ x=>x) (λ_ x=>x)
 ·refine ⟨A.os,A.tape,A.output,A.size,λk U _=>A.blk k U (λ_ _ h=>by cases h)⟩
end Go.Abs
