
/- The interpreter is sound: regions, code, functions.
   Conditions: none; generic over the program. -/
import Derived.Test.YtaogbalpingjhaaGreatDoorAbsCut
import Derived.LoopN
import Derived.Scope
set_option linter.unusedSimpArgs false
set_option linter.unusedVariables false
namespace Go.Abs
variable {P:Program}
theorem ts {α:Type} {E:List Ent} (g:∀x∈E,dT P x) {n:Nat} {ι0:Inj} {w0:Base} {ops:List Oper} {k:Ex->St->Option α} {z:α}:
  ∀(l:List Oper) (s:St) (ι:Inj) (a:Act) (w:World),Inv n ι0 w0 ι s a w->An P E n ops l s k=some z->
   wpList P ops.toArray (Post n ι0 w0 λex s'=>k ex s'=some z) l a w
 | [],s,ι,a,w,j,h=>⟨.normal,s,ι,rfl,j,h⟩
 | o::l,s,ι,a,w,j,h=>by
  simp only [An] at h;obtain ⟨f,s',h,e,m,_⟩:=IE j h;unfold wpList;cases f
  ·simp only at h;rw [m];simp only [bE,aC];split at h
   ·rename_i t;exact ts g l _ ι _ w (e.skip t) h
   ·cases h
  ·simp only at h;rw [m];simp only [aI];exact .inl (xk g e (λb q=>e.fresh b q) (aM _) h (λs' d p w' i c=>ts g l s' d p w' c i)
    (λv s' d x p w' i r c=>⟨.pan v,s',d,⟨x,rfl,r⟩,c,i⟩))
theorem mr {α:Type} {E:List Ent} (p:∀x∈E,dT P x) {L:List Sub} {n:Nat}:∀(c:AC) (s:St) (k:Ex->St->Option α) (z:α),iu P n L c->run P E L n c s k=some z->
  SemC P n c.code s λex s'=>k ex s'=some z
 | .skip,s,k,z,_,h=>λι0 w0 ι a w j=>wp_skip ⟨.normal,s,ι,rfl,j,h⟩
 | .ret,s,k,z,_,h=>λι0 w0 ι a w j=>wp_ret ⟨.ret,s,ι,rfl,j,h⟩
 | .exit id,s,k,z,_,h=>λι0 w0 ι a w j=>wp_exit ⟨.exit id,s,ι,rfl,j,h⟩
 | .seq x y,s,k,z,hs,h=>by
  intro ι0 w0 ι a w j;simp only [iu] at hs;simp only [run] at h;refine wp_seq (wp_mono (mr p x s _ z hs.1 h ι0 w0 ι a w j) ?_);rintro e r w' ⟨ex,s',d,f,o,g⟩;cases ex with
  | normal=>simp only [ExR] at f;subst f;exact mr p y s' k z hs.2 g ι0 w0 d r w' o
  | exit id=>simp only [ExR] at f;subst f;exact ⟨.exit id,s',d,rfl,o,g⟩
  | ret=>simp only [ExR] at f;subst f;exact ⟨.ret,s',d,rfl,o,g⟩
  | pan v=>obtain ⟨x,rfl,hx⟩:=f;exact ⟨.pan v,s',d,⟨x,rfl,hx⟩,o,g⟩
 | .cond c x y,s,k,z,hs,h=>by
  intro ι0 w0 ι a w j;simp only [iu] at hs;simp only [run] at h;split at h
  ·rename_i b q;have t:=aZ j.tmps q;simp only [VR] at t;cases b
   ·exact wp_cond_false t (mr p y s k z hs.2 h ι0 w0 ι a w j)
   ·exact wp_cond_true t (mr p x s k z hs.1 h ι0 w0 ι a w j)
  ·cases h
 | .block id x,s,k,z,hs,h=>by
  intro ι0 w0 ι a w j;simp only [iu] at hs;simp only [run] at h;refine wp_block (wp_mono (mr p x s _ z hs h ι0 w0 ι a w j) ?_);rintro e r w' ⟨ex,s',d,f,o,g⟩;cases ex with
  | normal=>simp only [ExR] at f;subst f;exact ⟨.normal,s',d,rfl,o,g⟩
  | exit i=>
   simp only [ExR] at f;subst f;simp only [Exit.inBlock];cases q:Nat.beq i id with
   | true=>
    simp only [q] at g;rw [ae (be q)];exact ⟨.normal,s',d,rfl,o,g⟩
   | false=>
    simp only [q] at g;rw [ab (by rintro rfl;simp at q)];exact ⟨.exit i,s',d,rfl,o,g⟩
  | ret=>simp only [ExR] at f;subst f;exact ⟨.ret,s',d,rfl,o,g⟩
  | pan v=>obtain ⟨x,rfl,hx⟩:=f;exact ⟨.pan v,s',d,⟨x,rfl,hx⟩,o,g⟩
 | .reg id ops,s,k,z,_,h=>λι0 w0 ι a w j=>wp_region_lit (ts p ops s ι a w j h)
 | .draw id ops,s,k,z,_,h=>Ls p h id
 | .sub m c,s,k,z,hs,h=>by
  simp only [iu] at hs;simp only [run] at h;exact hs α s k z h
 | .loop c,s,k,z,hs,h=>by
  simp only [iu] at hs;simp only [run] at h;intro ι0 w0 ι a w j;refine wp_loop_rounds 12 ?_;generalize 12=m at h
  induction m generalizing s ι a w with
  | zero=>simp [LS] at h
  | succ m ih=>
   rw [rounds_succ];simp only [LS] at h;refine qL ?_ (mr p c s _ z hs h ι0 w0 ι a w j);rintro e r w' ⟨ex,s',d,f,o,g⟩;cases ex with
   | normal=>simp only [ExR] at f;subst f;exact ih s' d r w' (by assumption) (by assumption)
   | exit id=>simp only [ExR] at f;subst f;exact ⟨.exit id,s',d,rfl,o,g⟩
   | ret=>simp only [ExR] at f;subst f;exact ⟨.ret,s',d,rfl,o,g⟩
   | pan v=>obtain ⟨x,rfl,hx⟩:=f;exact ⟨.pan v,s',d,⟨x,rfl,hx⟩,o,g⟩
 | .scope c,s,k,z,hs,h=>by
  simp only [iu] at hs;simp only [run] at h;intro ι0 w0 ι a w j;refine wp_scope_straight (qL ?_ (mr p c s _ z hs h ι0 w0 ι a w j));rintro e r w' ⟨ex,s',d,f,o,g⟩;cases ex with
  | normal=>simp only [ExR] at f;subst f;exact ⟨.normal,s',d,rfl,o,g⟩
  | exit id=>simp only [ExR] at f;subst f;exact ⟨.exit id,s',d,rfl,o,g⟩
  | ret=>simp only [ExR] at f;subst f;exact ⟨.ret,s',d,rfl,o,g⟩
  | pan v=>obtain ⟨x,rfl,hx⟩:=f;exact ⟨.pan v,s',d,⟨x,rfl,hx⟩,o,g⟩
 | .label l,s,k,z,_,h=>λι0 w0 ι a w j=>wp_label ⟨.normal,s,ι,rfl,j,h⟩
 | .bad c,s,k,z,_,h=>by simp [run] at h
def qg:List V->Nat->List (Nat×Option V)
 | [],_=>[]
 | v::l,j=>(j,some v)::qg l (j+1)
def retK {α:Type} (P:Program):List ResultVar->St->(List V->Option α)->Option α
 | [],_,c=>c []
 | .tmp t::r,s,c=>match look s.T t with
  | some (some v)=>retK P r s λl=>c (v::l)
  | _=>none
 | .cell t a::r,s,c=>match look s.T t with
  | some (some (.p b o))=>match look s.H b with
   | some blk=>vN P a blk o λv=>retK P r s λl=>c (v::l)
   | none=>none
  | _=>none
def I4:List V->V
 | [v]=>v
 | l=>.tp l
def finK {α:Type} (P:Program) (a:List ResultVar) (K:Bool->V->St->Option α):Ex->St->Option α
 | .normal,s=>retK P a s λl=>K false (I4 l) s
 | .ret,s=>retK P a s λl=>K false (I4 l) s
 | .pan v,s=>K true v s
 | .exit _,_=>none
theorem o6:∀(l:List V) (j t:Nat),look (qg l j) t=if j<=t then (l[t - j]?).map some else none
 | [],j,t=>by simp [qg,look]
 | v::l,j,t=>by
  simp only [qg,aL,o6 l (j+1) t];by_cases h:j=t
  ·subst h;simp
  ·simp only [h,aC];by_cases a:j<=t
   ·rw [ae (by omega),ae a,show t - j=(t - (j+1))+1 by omega];rfl
   ·rw [ab (by omega),ab a]
def MP (b:Array Value):ResultVar->Sem Value
 | .tmp t=>pure (b.getD t undef)
 | .cell a t=>do loadVar t (<-asAddr (b.getD a undef))
theorem wC (fn:Func) (b:Array Value):results fn b=(do
  let a <-fn.results.mapM (MP b)
  pure (if h:a.size=1 then a[0] else .tuple a)):=by
 unfold results;congr 2
theorem CS {α:Type} {n:Nat} {ι0 ι:Inj} {w0:Base} {s:St} {a:Act} {w:World} (f:Inv n ι0 w0 ι s a w):∀(e:List ResultVar) (c:List V->Option α) (z:α),retK P e s c=some z->
  ∃l d,c l=some z/\VRs ι l d/\(e.mapM (MP a.tmps)).run P w=.ok d w
 | [],c,z,h=>⟨[],[],h,by simp [VRs],rfl⟩
 | .tmp t::e,c,z,h=>by
  simp only [retK] at h;split at h
  ·rename_i v m;obtain ⟨x,p,g⟩:=f.tmps t v m;obtain ⟨l,d,q,j,i⟩:=CS f e _ z h;refine ⟨v::l,x::d,q,by simp only [VRs];exact ⟨x,d,rfl,g,j⟩,?_⟩;have hx:a.tmps.getD t undef=x:=by rw [oL,p];rfl
   simp only [yf,MP,aq,aB,ax,i,hx]
  ·cases h
 | .cell t C::e,c,z,h=>by
  simp only [retK] at h;split at h
  ·rename_i b o m;obtain ⟨x,p,g⟩:=f.tmps t _ m;split at h
   ·rename_i blk y;obtain ⟨v,X,r,D,A,E,B⟩:=Dz f.mem y h;obtain ⟨l,d,q,j,i⟩:=CS f e _ z D;refine ⟨v::l,X::d,q,by simp only [VRs];exact ⟨X,d,rfl,B,j⟩,?_⟩;simp only [VR] at g;obtain ⟨F,u,rfl⟩:=g;rw [A] at u;cases u;have hx:a.tmps.getD t undef=.pointer (some ⟨r.r,o,none⟩):=by rw [oL,p];rfl
    have k:(loadVar C ⟨r.r,o,none⟩).run P w=.ok X w:=by
     simpa only [Instr.loadAt,Instr.sureAddr,aq,aB,ax] using E
    simp only [yf,MP,aq,ax,i,hx,asAddr,aB,k]
   ·cases h
  ·cases h
theorem Lr {ι:Inj} {l:List V} {a:List Value} (h:VRs ι l a):VR ι (I4 l) (if h:a.toArray.size=1 then a.toArray[0] else .tuple a.toArray):=by
 have c:=h.length;unfold I4;split
 ·rename_i v;simp only [VRs] at h;obtain ⟨y,e,rfl,b,rfl⟩:=h;simpa using b
 ·rename_i d;have:¬a.toArray.size=1:=by
   intro b;simp only [vE] at b;rw [c] at b
   match l,b with
   | [v],_=>exact d v rfl
  rw [dif_neg this];simp only [VR];exact ⟨_,rfl,by simpa using h⟩
theorem xd {α:Type} {fn:Func} {n:Nat} {ι0 ι:Inj} {w0:Base} {s:St} {a:Act} {w:World} (f:Inv n ι0 w0 ι s a w) {c:V->Option α} {z:α}
  (h:retK P fn.results.toList s (λl=>c (I4 l))=some z):∃v x,c v=some z/\VR ι v x/\(results fn a.tmps).run P w=.ok x w:=by
 obtain ⟨l,g,d,e,b⟩:=CS f _ _ _ h;refine ⟨_,_,d,Lr e,?_⟩;rw [wC,NE];simp only [aq,Sem.run_map,b,ax,aB]
def yq {α:Type} (P:Program) (f:Nat) (args:List V) (H0:List (Nat×Blk)) (nb0 ro:Nat) (K:Bool->V->St->Option α) (z:α):Prop:=
 ∀(ι0:Inj) (w:World) (a:Array Value),WR ι0 H0 nb0 w->(∀b q,ι0 b=some (some q)->q.fz=true->b<ro)->GL (roI ι0 ro) w->VRs ι0 args a.toList->
  Calls P f a w λe w'=>∃(pan:Bool) (v:V) (s:St) (ι:Inj),K pan v s=some z/\(∀b q,ι0 b=some q->ι b=some q\/s.rb<=b)/\(∀b q,ι b=some (some q)->(∃c,ι0 b=some (some c)/\c.r=q.r)\/w.heap.size<=q.r)/\
   WR ι s.H s.nb w'/\(∀b q,ι b=some (some q)->q.fz=true->b<s.ro)/\Fr (roI ι0 s.ro) w w'/\RetR ι { val:=v,pan:=pan } e
theorem IK {α:Type} {E:List Ent} (N:∀x∈E,dT P x) {L:List Sub} {f:Nat} {fn:Func} {c:Code} {ac:AC} (Q:P.funcs[f]?=some fn) (M:fn.body=some c) (hc:ac.code=c)
  (F:iu P fn.ntmps L ac) {args:List V} {H0:List (Nat×Blk)} {nb0 ro rb:Nat} {K:Bool->V->St->Option α} {z:α} (D:Nat.ble args.length fn.ntmps=true)
  (h:run P E L fn.ntmps ac ⟨qg args 0,H0,nb0,nb0,ro,rb⟩ (finK P fn.results.toList K)=some z) (ι0:Inj) (w:World) (d:Array Value) (B:WR ι0 H0 nb0 w) (o:∀b q,ι0 b=some (some q)->q.fz=true->b<ro) (A:GL (roI ι0 ro) w) (hx:VRs ι0 args d.toList):
  Calls P f d w λe w'=>∃(pan:Bool) (v:V) (s:St) (ι:Inj),K pan v s=some z/\(∀b q,ι0 b=some q->ι b=some q\/s.rb<=b)/\(∀b q,ι b=some (some q)->(∃m,ι0 b=some (some m)/\m.r=q.r)\/w.heap.size<=q.r)/\
   WR ι s.H s.nb w'/\(∀b q,ι b=some (some q)->q.fz=true->b<s.ro)/\Fr (roI ι0 s.ro) w w'/\RetR ι { val:=v,pan:=pan } e:=by
 have C:d.size=args.length:=by simpa using hx.length
 have D:=aD D;refine calls_of_wp Q M ?_;rw [<-hc];have R:Inv fn.ntmps ι0 ⟨w,[]⟩ ι0 ⟨qg args 0,H0,nb0,nb0,ro,rb⟩ { tmps:=d++Array.replicate (fn.ntmps - d.size) undef,defers:=[] } w:=by
  refine ⟨by simp;omega,rfl,λt v l=>?_,B,λ_ _ h=>.inl h,λ_ q h=>.inl ⟨q,h,rfl⟩,Fr.refl _ _,λb r h=>B.low b r h,o,A⟩;rw [o6,ae (gf _)] at l;simp only [pP] at l;cases y:args[t]? with
  | none=>simp [y] at l
  | some u=>
   simp only [y,dC,ah] at l;subst l;obtain ⟨x,g,a⟩:=hx.get y;have h1':d[t]?=some x:=by simpa using g
   have p:t<d.size:=by
    rcases aE t d.size with n | n
    ·exact n
    ·rw [tZ n] at h1';cases h1'
   exact ⟨x,by rw [Oc p];exact h1',a⟩
 refine qL ?_ (mr N ac _ _ z F h ι0 ⟨w,[]⟩ ι0 _ w R);rintro e O w' ⟨ex,s',k,g,a,i⟩;have j:finK P fn.results.toList K .ret s'=some z->∃v,(results fn O.tmps).run P w'=.ok v w'/\∃(pan:Bool) (u:V) (s:St) (ι:Inj),K pan u s=some z/\(∀b q,ι0 b=some q->ι b=some q\/s.rb<=b)/\(∀b q,ι b=some (some q)->(∃m,ι0 b=some (some m)/\m.r=q.r)\/w.heap.size<=q.r)/\
   WR ι s.H s.nb w'/\(∀b q,ι b=some (some q)->q.fz=true->b<s.ro)/\Fr (roI ι0 s.ro) w w'/\RetR ι { val:=u,pan:=pan } (.returned v):=by
  intro i;simp only [finK] at i;obtain ⟨v,x,I,G,J⟩:=xd (fn:=fn) (c:=λv=>K false v s') a i;exact ⟨x,J,false,v,s',k,I,a.ext,a.new,a.mem,a.fz,a.fr,rfl,G⟩
 cases ex with
 | normal=>
  simp only [ExR] at g;subst g;exact ⟨a.defers,j i⟩
 | ret=>
  simp only [ExR] at g;subst g;exact ⟨a.defers,j i⟩
 | exit id=>simp [finK] at i
 | pan v=>
  obtain ⟨x,rfl,hx⟩:=g;exact ⟨a.defers,true,v,s',k,i,a.ext,a.new,a.mem,a.fz,a.fr,rfl,x,rfl,hx⟩
mutual
def V.flat:V->Bool
 | .b _ | .i _ _ | .s _ | .pn | .sn | .nf | .ni | .ai _ _ _ | .unk=>true
 | .p _ _ | .sl _ _ _ _ | .pr _ _ _ _ | .ws _ | .rs _ _ _ _ _ | .mp _=>false
 | .fn _ l | .ag l | .tp l=>V.flats l
 | .it _ v=>V.flat v
def V.flats:List V->Bool
 | []=>true
 | v::l=>V.flat v&&V.flats l
end
mutual
theorem VR.flat {ι J:Inj}:∀(v:V) (x:Value),V.flat v=true->VR ι v x->VR J v x
 | .b _,_,_,hx | .i _ _,_,_,hx | .s _,_,_,hx | .pn,_,_,hx | .sn,_,_,hx | .nf,_,_,hx | .ni,_,_,hx | .ai _ _ _,_,_,hx | .unk,_,_,hx=>by simpa only [VR] using hx
 | .p b o,x,C,hx=>by simp [V.flat] at C
 | .mp b,x,C,hx=>by simp [V.flat] at C
 | .pr z b j o,x,C,hx=>by simp [V.flat] at C
 | .ws b,x,C,hx=>by simp [V.flat] at C
 | .rs z b j n _,x,C,hx=>by simp [V.flat] at C
 | .sl b o len cap,x,C,hx=>by simp [V.flat] at C
 | .fn f cap,x,C,hx=>by
  simp only [V.flat] at C;simp only [VR] at hx ⊢;obtain ⟨G,E,F⟩:=hx;exact ⟨G,E,VRs.flat _ _ C F⟩
 | .it t v,x,C,hx=>by
  simp only [V.flat] at C;simp only [VR] at hx ⊢;obtain ⟨y,E,F⟩:=hx;exact ⟨y,E,VR.flat _ _ C F⟩
 | .ag l,x,C,hx=>by
  simp only [V.flat] at C;simp only [VR] at hx ⊢;obtain ⟨G,E,F⟩:=hx;exact ⟨G,E,VRs.flat _ _ C F⟩
 | .tp l,x,C,hx=>by
  simp only [V.flat] at C;simp only [VR] at hx ⊢;obtain ⟨G,E,F⟩:=hx;exact ⟨G,E,VRs.flat _ _ C F⟩
theorem VRs.flat {ι C:Inj}:∀(l:List V) (E:List Value),V.flats l=true->VRs ι l E->VRs C l E
 | [],_,_,hx=>by simpa [VRs] using hx
 | v::l,E,F,hx=>by
  simp only [V.flats,az] at F;simp only [VRs] at hx ⊢;obtain ⟨y,G,O,Q,J⟩:=hx;exact ⟨y,G,O,VR.flat _ _ F.1 Q,VRs.flat _ _ F.2 J⟩
end
def fP:Inj:=λ_=>none
def jh (P:Program) (f:Nat) (args:List V) (v:V):Prop:=
 ∀(w:World) (a:Array Value),GL fP w->VRs fP args a.toList->Calls P f a w λe w'=>∃x,e=.returned x/\VR fP v x/\Fr fP w w'
theorem JF {ro:Nat} {w w':World} (h:Fr (roI fP ro) w w'):Fr fP w w':=by
 have:roI fP ro=fP:=by
  funext b;unfold roI fP;cases Nat.blt b ro<;>rfl
 rwa [this] at h
theorem WR.nothing (w:World):WR fP [] 0 w:=⟨λ_ _ _ _ h=>(by cases h),λ_ _ h=>(by cases h),λ_ _ h=>(by cases h),λ_ _ h=>(by cases h)⟩
theorem jh.call {f:Nat} {args:List V} {v:V} (h:jh P f args v) (Q:V.flats args=true) (H:List (Nat×Blk)) (fr:Nat):EP P f args H fr { val:=v }:=by
 intro ι nb w O E W _ _ hx;refine (h w O (W.mono λb q h=>by cases h) (VRs.flat _ _ Q hx)).mono λe w' ⟨x,F,J,C⟩=>?_;subst F;have X:=C.size;refine ⟨ι,λ_ _ _=>rfl,λb q F=>by simp [isIn] at F,λb q F J=>by simp at J;omega,λ_ _ h _=>h,?_,?_,rfl,VR.mono (λ_ _ h=>by cases h) _ _ J⟩
 ·simp only [da,rh];refine ⟨E.inj,λb r G=>?_,λb r G=>?_,λb blk Z hd=>?_⟩
  ·have:=E.low b r G;omega
  ·have:=E.dom b r G;omega
  ·exact (E.blk b blk Z hd).map rfl (λq U=>C.blk q.r (E.dom b q U) (λ_ _ h=>by cases h)) (λ_ _ x=>x) (λ_ x=>x)
 ·refine ⟨C.os,C.tape,C.output,C.size,λk Y _=>C.blk k Y (λ_ _ h=>by cases h)⟩
end Go.Abs
