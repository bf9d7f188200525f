
/- The interpreter is sound: regions, code, functions.
   Conditions: none; generic over the program. -/
import Derived.Test.YtfiponokimbeeaaGreatDoorAbsCut
import Derived.LoopN
import Derived.Scope
set_option linter.unusedSimpArgs false
set_option linter.unusedVariables false
namespace Go.Abs
variable {P:Program}
theorem yz {α:Type} {E:List Ent} (i:∀x∈E,fF P x) {n:Nat} {ι0:Inj} {w0:Base} {ops:List Oper} {k:Ex->St->Option α} {z:α}:
  ∀(l:List Oper) (s:St) (ι:Inj) (a:Act) (w:World),Inv n ι0 w0 ι s a w->DW P E n ops l s k=some z->
   wpList P ops.toArray (Post n ι0 w0 λex s'=>k ex s'=some z) l a w
 | [],s,ι,a,w,j,h=>⟨.normal,s,ι,rfl,j,h⟩
 | o::l,s,ι,a,w,j,h=>by
  simp only [DW] at h;obtain ⟨f,s',h,e,p,_⟩:=LW j h;unfold wpList;cases f
  ·simp only at h;rw [p];simp only [br,aA];split at h
   ·rename_i r;exact yz i l _ ι _ w (e.skip r) h
   ·cases h
  ·simp only at h;rw [p];simp only [aJ];exact .inl (BI i e (λb q=>e.fresh b q) (aY _) h (λs' d m w' g c=>yz i l s' d m w' c g)
    (λv s' d x m w' g t c=>⟨.pan v,s',d,⟨x,rfl,t⟩,c,g⟩))
theorem oP {α:Type} {E:List Ent} (p:∀x∈E,fF P x) {L:List Sub} {n:Nat}:∀(c:AC) (s:St) (k:Ex->St->Option α) (z:α),jN P n L c->run P E L n c s k=some z->
  SemC P n c.code s λex s'=>k ex s'=some z
 | .skip,s,k,z,_,h=>λι0 w0 ι a w j=>wp_skip ⟨.normal,s,ι,rfl,j,h⟩
 | .ret,s,k,z,_,h=>λι0 w0 ι a w j=>wp_ret ⟨.ret,s,ι,rfl,j,h⟩
 | .exit id,s,k,z,_,h=>λι0 w0 ι a w j=>wp_exit ⟨.exit id,s,ι,rfl,j,h⟩
 | .seq x y,s,k,z,hs,h=>by
  intro ι0 w0 ι a w j;simp only [jN] at hs;simp only [run] at h;refine wp_seq (wp_mono (oP p x s _ z hs.1 h ι0 w0 ι a w j) ?_);rintro e r w' ⟨ex,s',d,f,o,g⟩;cases ex with
  | normal=>simp only [ExR] at f;subst f;exact oP p y s' k z hs.2 g ι0 w0 d r w' o
  | exit id=>simp only [ExR] at f;subst f;exact ⟨.exit id,s',d,rfl,o,g⟩
  | ret=>simp only [ExR] at f;subst f;exact ⟨.ret,s',d,rfl,o,g⟩
  | pan v=>obtain ⟨x,rfl,hx⟩:=f;exact ⟨.pan v,s',d,⟨x,rfl,hx⟩,o,g⟩
 | .cond c x y,s,k,z,hs,h=>by
  intro ι0 w0 ι a w j;simp only [jN] at hs;simp only [run] at h;split at h
  ·rename_i b q;have t:=bu j.tmps q;simp only [VR] at t;cases b
   ·exact wp_cond_false t (oP p y s k z hs.2 h ι0 w0 ι a w j)
   ·exact wp_cond_true t (oP p x s k z hs.1 h ι0 w0 ι a w j)
  ·cases h
 | .block id x,s,k,z,hs,h=>by
  intro ι0 w0 ι a w j;simp only [jN] at hs;simp only [run] at h;refine wp_block (wp_mono (oP p x s _ z hs h ι0 w0 ι a w j) ?_);rintro e r w' ⟨ex,s',d,f,o,g⟩;cases ex with
  | normal=>simp only [ExR] at f;subst f;exact ⟨.normal,s',d,rfl,o,g⟩
  | exit i=>
   simp only [ExR] at f;subst f;simp only [Exit.inBlock];cases q:Nat.beq i id with
   | true=>
    simp only [q] at g;rw [ae (bK q)];exact ⟨.normal,s',d,rfl,o,g⟩
   | false=>
    simp only [q] at g;rw [ab (by rintro rfl;simp at q)];exact ⟨.exit i,s',d,rfl,o,g⟩
  | ret=>simp only [ExR] at f;subst f;exact ⟨.ret,s',d,rfl,o,g⟩
  | pan v=>obtain ⟨x,rfl,hx⟩:=f;exact ⟨.pan v,s',d,⟨x,rfl,hx⟩,o,g⟩
 | .reg id ops,s,k,z,_,h=>λι0 w0 ι a w j=>wp_region_lit (yz p ops s ι a w j h)
 | .draw id ops,s,k,z,_,h=>OW p h id
 | .sub m c,s,k,z,hs,h=>by
  simp only [jN] at hs;simp only [run] at h;exact hs α s k z h
 | .loop c,s,k,z,hs,h=>by
  simp only [jN] at hs;simp only [run] at h;intro ι0 w0 ι a w j;refine wp_loop_rounds 12 ?_;generalize 12=m at h
  induction m generalizing s ι a w with
  | zero=>simp [Px] at h
  | succ m ih=>
   rw [rounds_succ];simp only [Px] at h;refine tC ?_ (oP p c s _ z hs h ι0 w0 ι a w j);rintro e r w' ⟨ex,s',d,f,o,g⟩;cases ex with
   | normal=>simp only [ExR] at f;subst f;exact ih s' d r w' (by assumption) (by assumption)
   | exit id=>simp only [ExR] at f;subst f;exact ⟨.exit id,s',d,rfl,o,g⟩
   | ret=>simp only [ExR] at f;subst f;exact ⟨.ret,s',d,rfl,o,g⟩
   | pan v=>obtain ⟨x,rfl,hx⟩:=f;exact ⟨.pan v,s',d,⟨x,rfl,hx⟩,o,g⟩
 | .scope c,s,k,z,hs,h=>by
  simp only [jN] at hs;simp only [run] at h;intro ι0 w0 ι a w j;refine wp_scope_straight (tC ?_ (oP p c s _ z hs h ι0 w0 ι a w j));rintro e r w' ⟨ex,s',d,f,o,g⟩;cases ex with
  | normal=>simp only [ExR] at f;subst f;exact ⟨.normal,s',d,rfl,o,g⟩
  | exit id=>simp only [ExR] at f;subst f;exact ⟨.exit id,s',d,rfl,o,g⟩
  | ret=>simp only [ExR] at f;subst f;exact ⟨.ret,s',d,rfl,o,g⟩
  | pan v=>obtain ⟨x,rfl,hx⟩:=f;exact ⟨.pan v,s',d,⟨x,rfl,hx⟩,o,g⟩
 | .label l,s,k,z,_,h=>λι0 w0 ι a w j=>wp_label ⟨.normal,s,ι,rfl,j,h⟩
 | .bad c,s,k,z,_,h=>by simp [run] at h
def sD:List V->Nat->List (Nat×Option V)
 | [],_=>[]
 | v::l,j=>(j,some v)::sD l (j+1)
def retK {α:Type} (P:Program):List ResultVar->St->(List V->Option α)->Option α
 | [],_,c=>c []
 | .tmp t::r,s,c=>match look s.T t with
  | some (some v)=>retK P r s λl=>c (v::l)
  | _=>none
 | .cell t a::r,s,c=>match look s.T t with
  | some (some (.p b o))=>match look s.H b with
   | some blk=>yD P a blk o λv=>retK P r s λl=>c (v::l)
   | none=>none
  | _=>none
def Ju:List V->V
 | [v]=>v
 | l=>.tp l
def finK {α:Type} (P:Program) (a:List ResultVar) (K:Bool->V->St->Option α):Ex->St->Option α
 | .normal,s=>retK P a s λl=>K false (Ju l) s
 | .ret,s=>retK P a s λl=>K false (Ju l) s
 | .pan v,s=>K true v s
 | .exit _,_=>none
theorem rV:∀(l:List V) (j t:Nat),look (sD l j) t=if j<=t then (l[t - j]?).map some else none
 | [],j,t=>by simp [sD,look]
 | v::l,j,t=>by
  simp only [sD,aU,rV l (j+1) t];by_cases h:j=t
  ·subst h;simp
  ·simp only [h,aA];by_cases a:j<=t
   ·rw [ae (by omega),ae a,show t - j=(t - (j+1))+1 by omega];rfl
   ·rw [ab (by omega),ab a]
def OL (b:Array Value):ResultVar->Sem Value
 | .tmp t=>pure (b.getD t undef)
 | .cell a t=>do loadVar t (<-asAddr (b.getD a undef))
theorem yX (fn:Func) (b:Array Value):results fn b=(do
  let a <-fn.results.mapM (OL b)
  pure (if h:a.size=1 then a[0] else .tuple a)):=by
 unfold results;congr 2
theorem Fg {α:Type} {n:Nat} {ι0 ι:Inj} {w0:Base} {s:St} {a:Act} {w:World} (f:Inv n ι0 w0 ι s a w):∀(e:List ResultVar) (c:List V->Option α) (z:α),retK P e s c=some z->
  ∃l d,c l=some z/\VRs ι l d/\(e.mapM (OL a.tmps)).run P w=.ok d w
 | [],c,z,h=>⟨[],[],h,by simp [VRs],rfl⟩
 | .tmp t::e,c,z,h=>by
  simp only [retK] at h;split at h
  ·rename_i v m;obtain ⟨x,j,g⟩:=f.tmps t v m;obtain ⟨l,d,i,q,k⟩:=Fg f e _ z h;refine ⟨v::l,x::d,i,by simp only [VRs];exact ⟨x,d,rfl,g,q⟩,?_⟩;have hx:a.tmps.getD t undef=x:=by rw [qU,j];rfl
   simp only [E5,OL,aw,aD,ay,k,hx]
  ·cases h
 | .cell t A::e,c,z,h=>by
  simp only [retK] at h;split at h
  ·rename_i b o m;obtain ⟨x,j,g⟩:=f.tmps t _ m;split at h
   ·rename_i blk y;obtain ⟨v,X,r,C,B,D,E⟩:=HW f.mem y h;obtain ⟨l,d,i,q,k⟩:=Fg f e _ z C;refine ⟨v::l,X::d,i,by simp only [VRs];exact ⟨X,d,rfl,E,q⟩,?_⟩;simp only [VR] at g;obtain ⟨F,u,rfl⟩:=g;rw [B] at u;cases u;have hx:a.tmps.getD t undef=.pointer (some ⟨r.r,o,none⟩):=by rw [qU,j];rfl
    have p:(loadVar A ⟨r.r,o,none⟩).run P w=.ok X w:=by
     simpa only [Instr.loadAt,Instr.sureAddr,aw,aD,ay] using D
    simp only [E5,OL,aw,ay,k,hx,asAddr,aD,p]
   ·cases h
  ·cases h
theorem OV {ι:Inj} {l:List V} {b:List Value} (h:VRs ι l b):VR ι (Ju l) (if h:b.toArray.size=1 then b.toArray[0] else .tuple b.toArray):=by
 have c:=h.length;unfold Ju;split
 ·rename_i v;simp only [VRs] at h;obtain ⟨y,e,rfl,a,rfl⟩:=h;simpa using a
 ·rename_i d;have:¬b.toArray.size=1:=by
   intro a;simp only [ym] at a;rw [c] at a
   match l,a with
   | [v],_=>exact d v rfl
  rw [dif_neg this];simp only [VR];exact ⟨_,rfl,by simpa using h⟩
theorem zj {α:Type} {fn:Func} {n:Nat} {ι0 ι:Inj} {w0:Base} {s:St} {a:Act} {w:World} (e:Inv n ι0 w0 ι s a w) {c:V->Option α} {z:α}
  (h:retK P fn.results.toList s (λl=>c (Ju l))=some z):∃v x,c v=some z/\VR ι v x/\(results fn a.tmps).run P w=.ok x w:=by
 obtain ⟨l,g,d,f,b⟩:=Fg e _ _ _ h;refine ⟨_,_,d,OV f,?_⟩;rw [yX,QJ];simp only [aw,Sem.run_map,b,ay,aD]
def Bl {α:Type} (P:Program) (f:Nat) (args:List V) (H0:List (Nat×Blk)) (nb0 ro:Nat) (K:Bool->V->St->Option α) (z:α):Prop:=
 ∀(ι0:Inj) (w:World) (a:Array Value),WR ι0 H0 nb0 w->(∀b q,ι0 b=some (some q)->q.fz=true->b<ro)->GL (roI ι0 ro) w->VRs ι0 args a.toList->
  Calls P f a w λe w'=>∃(pan:Bool) (v:V) (s:St) (ι:Inj),K pan v s=some z/\(∀b q,ι0 b=some q->ι b=some q\/s.rb<=b)/\(∀b q,ι b=some (some q)->(∃c,ι0 b=some (some c)/\c.r=q.r)\/w.heap.size<=q.r)/\
   WR ι s.H s.nb w'/\(∀b q,ι b=some (some q)->q.fz=true->b<s.ro)/\Fr (roI ι0 s.ro) w w'/\RetR ι { val:=v,pan:=pan } e
theorem Ji {α:Type} {E:List Ent} (G:∀x∈E,fF P x) {L:List Sub} {f:Nat} {fn:Func} {c:Code} {ac:AC} (Q:P.funcs[f]?=some fn) (M:fn.body=some c) (hc:ac.code=c)
  (F:jN P fn.ntmps L ac) {args:List V} {H0:List (Nat×Blk)} {nb0 ro rb:Nat} {K:Bool->V->St->Option α} {z:α} (D:Nat.ble args.length fn.ntmps=true)
  (h:run P E L fn.ntmps ac ⟨sD args 0,H0,nb0,nb0,ro,rb⟩ (finK P fn.results.toList K)=some z) (ι0:Inj) (w:World) (d:Array Value) (C:WR ι0 H0 nb0 w) (p:∀b q,ι0 b=some (some q)->q.fz=true->b<ro) (A:GL (roI ι0 ro) w) (hx:VRs ι0 args d.toList):
  Calls P f d w λe w'=>∃(pan:Bool) (v:V) (s:St) (ι:Inj),K pan v s=some z/\(∀b q,ι0 b=some q->ι b=some q\/s.rb<=b)/\(∀b q,ι b=some (some q)->(∃k,ι0 b=some (some k)/\k.r=q.r)\/w.heap.size<=q.r)/\
   WR ι s.H s.nb w'/\(∀b q,ι b=some (some q)->q.fz=true->b<s.ro)/\Fr (roI ι0 s.ro) w w'/\RetR ι { val:=v,pan:=pan } e:=by
 have B:d.size=args.length:=by simpa using hx.length
 have D:=aI D;refine calls_of_wp Q M ?_;rw [<-hc];have O:Inv fn.ntmps ι0 ⟨w,[]⟩ ι0 ⟨sD args 0,H0,nb0,nb0,ro,rb⟩ { tmps:=d++Array.replicate (fn.ntmps - d.size) undef,defers:=[] } w:=by
  refine ⟨by simp;omega,rfl,λt v j=>?_,C,λ_ _ h=>.inl h,λ_ q h=>.inl ⟨q,h,rfl⟩,Fr.refl _ _,λb r h=>C.low b r h,p,A⟩;rw [rV,ae (f7 _)] at j;simp only [sY] at j;cases o:args[t]? with
  | none=>simp [o] at j
  | some u=>
   simp only [o,eX,au] at j;subst j;obtain ⟨x,g,a⟩:=hx.get o;have h1':d[t]?=some x:=by simpa using g
   have n:t<d.size:=by
    rcases aH t d.size with y | y
    ·exact y
    ·rw [wR y] at h1';cases h1'
   exact ⟨x,by rw [SR n];exact h1',a⟩
 refine tC ?_ (oP G ac _ _ z F h ι0 ⟨w,[]⟩ ι0 _ w O);rintro e N w' ⟨ex,s',m,g,a,i⟩;have l:finK P fn.results.toList K .ret s'=some z->∃v,(results fn N.tmps).run P w'=.ok v w'/\∃(pan:Bool) (u:V) (s:St) (ι:Inj),K pan u s=some z/\(∀b q,ι0 b=some q->ι b=some q\/s.rb<=b)/\(∀b q,ι b=some (some q)->(∃k,ι0 b=some (some k)/\k.r=q.r)\/w.heap.size<=q.r)/\
   WR ι s.H s.nb w'/\(∀b q,ι b=some (some q)->q.fz=true->b<s.ro)/\Fr (roI ι0 s.ro) w w'/\RetR ι { val:=u,pan:=pan } (.returned v):=by
  intro i;simp only [finK] at i;obtain ⟨v,x,I,R,J⟩:=zj (fn:=fn) (c:=λv=>K false v s') a i;exact ⟨x,J,false,v,s',m,I,a.ext,a.new,a.mem,a.fz,a.fr,rfl,R⟩
 cases ex with
 | normal=>
  simp only [ExR] at g;subst g;exact ⟨a.defers,l i⟩
 | ret=>
  simp only [ExR] at g;subst g;exact ⟨a.defers,l i⟩
 | exit id=>simp [finK] at i
 | pan v=>
  obtain ⟨x,rfl,hx⟩:=g;exact ⟨a.defers,true,v,s',m,i,a.ext,a.new,a.mem,a.fz,a.fr,rfl,x,rfl,hx⟩
mutual
def V.flat:V->Bool
 | .b _ | .i _ _ | .s _ | .pn | .sn | .nf | .ni | .ai _ _ _ | .unk=>true
 | .p _ _ | .sl _ _ _ _ | .pr _ _ _ _ | .ws _ | .rs _ _ _ _ _ | .mp _=>false
 | .fn _ l | .ag l | .tp l=>V.flats l
 | .it _ v=>V.flat v
def V.flats:List V->Bool
 | []=>true
 | v::l=>V.flat v&&V.flats l
end
mutual
theorem VR.flat {ι J:Inj}:∀(v:V) (x:Value),V.flat v=true->VR ι v x->VR J v x
 | .b _,_,_,hx | .i _ _,_,_,hx | .s _,_,_,hx | .pn,_,_,hx | .sn,_,_,hx | .nf,_,_,hx | .ni,_,_,hx | .ai _ _ _,_,_,hx | .unk,_,_,hx=>by simpa only [VR] using hx
 | .p b o,x,C,hx=>by simp [V.flat] at C
 | .mp b,x,C,hx=>by simp [V.flat] at C
 | .pr z b j o,x,C,hx=>by simp [V.flat] at C
 | .ws b,x,C,hx=>by simp [V.flat] at C
 | .rs z b j n _,x,C,hx=>by simp [V.flat] at C
 | .sl b o len cap,x,C,hx=>by simp [V.flat] at C
 | .fn f cap,x,C,hx=>by
  simp only [V.flat] at C;simp only [VR] at hx ⊢;obtain ⟨G,E,F⟩:=hx;exact ⟨G,E,VRs.flat _ _ C F⟩
 | .it t v,x,C,hx=>by
  simp only [V.flat] at C;simp only [VR] at hx ⊢;obtain ⟨y,E,F⟩:=hx;exact ⟨y,E,VR.flat _ _ C F⟩
 | .ag l,x,C,hx=>by
  simp only [V.flat] at C;simp only [VR] at hx ⊢;obtain ⟨G,E,F⟩:=hx;exact ⟨G,E,VRs.flat _ _ C F⟩
 | .tp l,x,C,hx=>by
  simp only [V.flat] at C;simp only [VR] at hx ⊢;obtain ⟨G,E,F⟩:=hx;exact ⟨G,E,VRs.flat _ _ C F⟩
theorem VRs.flat {ι E:Inj}:∀(l:List V) (F:List Value),V.flats l=true->VRs ι l F->VRs E l F
 | [],_,_,hx=>by simpa [VRs] using hx
 | v::l,F,C,hx=>by
  simp only [V.flats,az] at C;simp only [VRs] at hx ⊢;obtain ⟨y,O,J,Q,G⟩:=hx;exact ⟨y,O,J,VR.flat _ _ C.1 Q,VRs.flat _ _ C.2 G⟩
end
def ie:Inj:=λ_=>none
def lk (P:Program) (f:Nat) (args:List V) (v:V):Prop:=
 ∀(w:World) (a:Array Value),GL ie w->VRs ie args a.toList->Calls P f a w λe w'=>∃x,e=.returned x/\VR ie v x/\Fr ie w w'
theorem Nz {ro:Nat} {w w':World} (h:Fr (roI ie ro) w w'):Fr ie w w':=by
 have:roI ie ro=ie:=by
  funext b;unfold roI ie;cases Nat.blt b ro<;>rfl
 rwa [this] at h
theorem WR.nothing (w:World):WR ie [] 0 w:=⟨λ_ _ _ _ h=>(by cases h),λ_ _ h=>(by cases h),λ_ _ h=>(by cases h),λ_ _ h=>(by cases h)⟩
theorem lk.call {f:Nat} {args:List V} {v:V} (h:lk P f args v) (O:V.flats args=true) (H:List (Nat×Blk)) (fr:Nat):GW P f args H fr { val:=v }:=by
 intro ι nb w xs E W _ _ hx;refine (h w xs (W.mono λb q h=>by cases h) (VRs.flat _ _ O hx)).mono λe w' ⟨x,F,J,C⟩=>?_;subst F;have U:=C.size;refine ⟨ι,λ_ _ _=>rfl,λb q F=>by simp [isIn] at F,λb q F J=>by simp at J;omega,λ_ _ h _=>h,?_,?_,rfl,VR.mono (λ_ _ h=>by cases h) _ _ J⟩
 ·simp only [eK,tJ];refine ⟨E.inj,λb r G=>?_,λb r G=>?_,λb blk X Z=>?_⟩
  ·have:=E.low b r G;omega
  ·have:=E.dom b r G;omega
  ·exact (E.blk b blk X Z).map rfl (λq Q=>C.blk q.r (E.dom b q Q) (λ_ _ h=>by cases h)) (λ_ _ x=>x) (λ_ x=>x)
 ·refine ⟨C.os,C.tape,C.output,C.size,λk Y _=>C.blk k Y (λ_ _ h=>by cases h)⟩
end Go.Abs
