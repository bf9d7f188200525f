/- The interpreter is sound: regions, code, functions.
   Conditions: none; generic over the program. -/
import Derived.Test.YtpkdacjndoiabaaGreatDoorAbsCut
import Derived.LoopN
import Derived.Scope
set_option linter.unusedSimpArgs false
namespace Go.Abs
variable {P:Program}
theorem uw {α:Type} {E:List Ent} (hE:∀x∈E,gC P x) {n:Nat} {ι0:Inj} {w0:Base} {ops:List Oper} {k:Ex->St->Option α} {z:α}:
  ∀(l:List Oper) (s:St) (ι:Inj) (a:Act) (w:World),Inv n ι0 w0 ι s a w->Aa P E n ops l s k=some z->
   wpList P ops.toArray (Post n ι0 w0 λex s'=>k ex s'=some z) l a w
 | [],s,ι,a,w,hI,h=>⟨.normal,s,ι,rfl,hI,h⟩
 | o::l,s,ι,a,w,hI,h=>by
  simp only [Aa] at h
  obtain ⟨want,s',h,hI',hw,_⟩:=Hy hI h
  unfold wpList
  cases want
  ·simp only at h
   rw [hw]
   simp only [bP,aE]
   split at h
   ·rename_i hd
    exact uw hE l _ ι _ w (hI'.skip hd) h
   ·cases h
  ·simp only at h
   rw [hw]
   simp only [aO]
   exact .inl (zj hE hI' (λb hb=>hI'.fresh b hb) (aV _) h (λs' ι' a' w' hk hI''=>uw hE l s' ι' a' w' hI'' hk)
    (λv s' ι' x a' w' hk hv hI''=>⟨.pan v,s',ι',⟨x,rfl,hv⟩,hI'',hk⟩))
theorem nF {α:Type} {E:List Ent} (hE:∀x∈E,gC P x) {L:List Sub} {n:Nat}:∀(c:AC) (s:St) (k:Ex->St->Option α) (z:α),jg P n L c->run P E L n c s k=some z->
  SemC P n c.code s λex s'=>k ex s'=some z
 | .skip,s,k,z,_,h=>λι0 w0 ι a w hI=>wp_skip ⟨.normal,s,ι,rfl,hI,h⟩
 | .ret,s,k,z,_,h=>λι0 w0 ι a w hI=>wp_ret ⟨.ret,s,ι,rfl,hI,h⟩
 | .exit id,s,k,z,_,h=>λι0 w0 ι a w hI=>wp_exit ⟨.exit id,s,ι,rfl,hI,h⟩
 | .seq x y,s,k,z,hs,h=>by
  intro ι0 w0 ι a w hI
  simp only [jg] at hs
  simp only [run] at h
  refine wp_seq (wp_mono (nF hE x s _ z hs.1 h ι0 w0 ι a w hI) ?_)
  rintro e a' w' ⟨ex,s',ι',h1,h2,h3⟩
  cases ex with
  | normal=>simp only [ExR] at h1;subst h1;exact nF hE y s' k z hs.2 h3 ι0 w0 ι' a' w' h2
  | exit id=>simp only [ExR] at h1;subst h1;exact ⟨.exit id,s',ι',rfl,h2,h3⟩
  | ret=>simp only [ExR] at h1;subst h1;exact ⟨.ret,s',ι',rfl,h2,h3⟩
  | pan v=>obtain ⟨x,rfl,hx⟩:=h1;exact ⟨.pan v,s',ι',⟨x,rfl,hx⟩,h2,h3⟩
 | .cond c x y,s,k,z,hs,h=>by
  intro ι0 w0 ι a w hI
  simp only [jg] at hs
  simp only [run] at h
  split at h
  ·rename_i b hb
   have hv:=bj hI.tmps hb
   simp only [VR] at hv
   cases b
   ·exact wp_cond_false hv (nF hE y s k z hs.2 h ι0 w0 ι a w hI)
   ·exact wp_cond_true hv (nF hE x s k z hs.1 h ι0 w0 ι a w hI)
  ·cases h
 | .block id x,s,k,z,hs,h=>by
  intro ι0 w0 ι a w hI
  simp only [jg] at hs
  simp only [run] at h
  refine wp_block (wp_mono (nF hE x s _ z hs h ι0 w0 ι a w hI) ?_)
  rintro e a' w' ⟨ex,s',ι',h1,h2,h3⟩
  cases ex with
  | normal=>simp only [ExR] at h1;subst h1;exact ⟨.normal,s',ι',rfl,h2,h3⟩
  | exit i=>
   simp only [ExR] at h1;subst h1
   simp only [Exit.inBlock]
   cases hb:Nat.beq i id with
   | true=>
    simp only [hb] at h3
    rw [ae (bB hb)]
    exact ⟨.normal,s',ι',rfl,h2,h3⟩
   | false=>
    simp only [hb] at h3
    rw [ab (by rintro rfl;simp at hb)]
    exact ⟨.exit i,s',ι',rfl,h2,h3⟩
  | ret=>simp only [ExR] at h1;subst h1;exact ⟨.ret,s',ι',rfl,h2,h3⟩
  | pan v=>obtain ⟨x,rfl,hx⟩:=h1;exact ⟨.pan v,s',ι',⟨x,rfl,hx⟩,h2,h3⟩
 | .reg id ops,s,k,z,_,h=>λι0 w0 ι a w hI=>wp_region_lit (uw hE ops s ι a w hI h)
 | .draw id ops,s,k,z,_,h=>Jv hE h id
 | .sub m c,s,k,z,hs,h=>by
  simp only [jg] at hs
  simp only [run] at h
  exact hs α s k z h
 | .loop c,s,k,z,hs,h=>by
  simp only [jg] at hs
  simp only [run] at h
  intro ι0 w0 ι a w hI
  refine wp_loop_rounds 12 ?_
  generalize 12=m at h
  induction m generalizing s ι a w with
  | zero=>simp [JT] at h
  | succ m ih=>
   rw [rounds_succ]
   simp only [JT] at h
   refine rI ?_ (nF hE c s _ z hs h ι0 w0 ι a w hI)
   rintro e a' w' ⟨ex,s',ι',h1,h2,h3⟩
   cases ex with
   | normal=>simp only [ExR] at h1;subst h1;exact ih s' ι' a' w' (by assumption) (by assumption)
   | exit id=>simp only [ExR] at h1;subst h1;exact ⟨.exit id,s',ι',rfl,h2,h3⟩
   | ret=>simp only [ExR] at h1;subst h1;exact ⟨.ret,s',ι',rfl,h2,h3⟩
   | pan v=>obtain ⟨x,rfl,hx⟩:=h1;exact ⟨.pan v,s',ι',⟨x,rfl,hx⟩,h2,h3⟩
 | .scope c,s,k,z,hs,h=>by
  simp only [jg] at hs
  simp only [run] at h
  intro ι0 w0 ι a w hI
  refine wp_scope_straight (rI ?_ (nF hE c s _ z hs h ι0 w0 ι a w hI))
  rintro e a' w' ⟨ex,s',ι',h1,h2,h3⟩
  cases ex with
  | normal=>simp only [ExR] at h1;subst h1;exact ⟨.normal,s',ι',rfl,h2,h3⟩
  | exit id=>simp only [ExR] at h1;subst h1;exact ⟨.exit id,s',ι',rfl,h2,h3⟩
  | ret=>simp only [ExR] at h1;subst h1;exact ⟨.ret,s',ι',rfl,h2,h3⟩
  | pan v=>obtain ⟨x,rfl,hx⟩:=h1;exact ⟨.pan v,s',ι',⟨x,rfl,hx⟩,h2,h3⟩
 | .label l,s,k,z,_,h=>λι0 w0 ι a w hI=>wp_label ⟨.normal,s,ι,rfl,hI,h⟩
 | .bad c,s,k,z,_,h=>by simp [run] at h
def rt:List V->Nat->List (Nat×Option V)
 | [],_=>[]
 | v::l,j=>(j,some v)::rt l (j+1)
def retK {α:Type} (P:Program):List ResultVar->St->(List V->Option α)->Option α
 | [],_,c=>c []
 | .tmp t::r,s,c=>match look s.T t with
  | some (some v)=>retK P r s λl=>c (v::l)
  | _=>none
 | .cell t ty::r,s,c=>match look s.T t with
  | some (some (.p b o))=>match look s.H b with
   | some blk=>wL P ty blk o λv=>retK P r s λl=>c (v::l)
   | none=>none
  | _=>none
def FP:List V->V
 | [v]=>v
 | l=>.tp l
def finK {α:Type} (P:Program) (rv:List ResultVar) (K:Bool->V->St->Option α):Ex->St->Option α
 | .normal,s=>retK P rv s λl=>K false (FP l) s
 | .ret,s=>retK P rv s λl=>K false (FP l) s
 | .pan v,s=>K true v s
 | .exit _,_=>none
theorem qd:∀(l:List V) (j t:Nat),look (rt l j) t=if j<=t then (l[t - j]?).map some else none
 | [],j,t=>by simp [rt,look]
 | v::l,j,t=>by
  simp only [rt,aS,qd l (j+1) t]
  by_cases h:j=t
  ·subst h;simp
  ·simp only [h,aE]
   by_cases h2:j<=t
   ·rw [ae (by omega),ae h2,show t - j=(t - (j+1))+1 by omega];rfl
   ·rw [ab (by omega),ab h2]
def Ka (tm:Array Value):ResultVar->Sem Value
 | .tmp t=>pure (tm.getD t undef)
 | .cell a t=>do loadVar t (<-asAddr (tm.getD a undef))
theorem xE (fn:Func) (tm:Array Value):results fn tm=(do
  let vs <-fn.results.mapM (Ka tm)
  pure (if h:vs.size=1 then vs[0] else .tuple vs)):=by
 unfold results
 congr 2
theorem BV {α:Type} {n:Nat} {ι0 ι:Inj} {w0:Base} {s:St} {a:Act} {w:World} (hI:Inv n ι0 w0 ι s a w):∀(rv:List ResultVar) (c:List V->Option α) (z:α),retK P rv s c=some z->
  ∃l xs,c l=some z/\VRs ι l xs/\(rv.mapM (Ka a.tmps)).run P w=.ok xs w
 | [],c,z,h=>⟨[],[],h,by simp [VRs],rfl⟩
 | .tmp t::rv,c,z,h=>by
  simp only [retK] at h
  split at h
  ·rename_i v hv
   obtain ⟨x,h1,h2⟩:=hI.tmps t v hv
   obtain ⟨l,xs,h3,h4,h5⟩:=BV hI rv _ z h
   refine ⟨v::l,x::xs,h3,by simp only [VRs];exact ⟨x,xs,rfl,h2,h4⟩,?_⟩
   have hx:a.tmps.getD t undef=x:=by rw [ph,h1];rfl
   simp only [Cf,Ka,aw,aA,ay,h5,hx]
  ·cases h
 | .cell t ty::rv,c,z,h=>by
  simp only [retK] at h
  split at h
  ·rename_i b o hv
   obtain ⟨x,h1,h2⟩:=hI.tmps t _ hv
   split at h
   ·rename_i blk hb
    obtain ⟨v,X,r,g1,g2,g3,g4⟩:=DW hI.mem hb h
    obtain ⟨l,xs,h3,h4,h5⟩:=BV hI rv _ z g1
    refine ⟨v::l,X::xs,h3,by simp only [VRs];exact ⟨X,xs,rfl,g4,h4⟩,?_⟩
    simp only [VR] at h2
    obtain ⟨r',g5,rfl⟩:=h2
    rw [g2] at g5;cases g5
    have hx:a.tmps.getD t undef=.pointer (some ⟨r.r,o,none⟩):=by rw [ph,h1];rfl
    have hlv:(loadVar ty ⟨r.r,o,none⟩).run P w=.ok X w:=by
     simpa only [Instr.loadAt,Instr.sureAddr,aw,aA,ay] using g3
    simp only [Cf,Ka,aw,ay,h5,hx,asAddr,aA,hlv]
   ·cases h
  ·cases h
theorem iO9 {ι:Inj} {l:List V} {xs:List Value} (h:VRs ι l xs):VR ι (FP l) (if h:xs.toArray.size=1 then xs.toArray[0] else .tuple xs.toArray):=by
 have hl:=h.length
 unfold FP
 split
 ·rename_i v
  simp only [VRs] at h
  obtain ⟨y,ys,rfl,h1,rfl⟩:=h
  simpa using h1
 ·rename_i hn
  have:¬xs.toArray.size=1:=by
   intro h1
   simp only [vt] at h1
   rw [hl] at h1
   match l,h1 with
   | [v],_=>exact hn v rfl
  rw [dif_neg this]
  simp only [VR]
  exact ⟨_,rfl,by simpa using h⟩
theorem xH {α:Type} {fn:Func} {n:Nat} {ι0 ι:Inj} {w0:Base} {s:St} {a:Act} {w:World} (hI:Inv n ι0 w0 ι s a w) {c:V->Option α} {z:α}
  (h:retK P fn.results.toList s (λl=>c (FP l))=some z):∃v x,c v=some z/\VR ι v x/\(results fn a.tmps).run P w=.ok x w:=by
 obtain ⟨l,xs,h1,h2,h3⟩:=BV hI _ _ _ h
 refine ⟨_,_,h1,iO9 h2,?_⟩
 rw [xE,Kh]
 simp only [aw,Sem.run_map,h3,ay,aA]
def yn {α:Type} (P:Program) (f:Nat) (args:List V) (H0:List (Nat×Blk)) (nb0 ro:Nat) (K:Bool->V->St->Option α) (z:α):Prop:=
 ∀(ι0:Inj) (w:World) (xs:Array Value),WR ι0 H0 nb0 w->(∀b q,ι0 b=some (some q)->q.fz=true->b<ro)->GL (roI ι0 ro) w->VRs ι0 args xs.toList->
  Calls P f xs w λe w'=>∃(pan:Bool) (v:V) (s:St) (ι:Inj),K pan v s=some z/\(∀b q,ι0 b=some q->ι b=some q\/s.rb<=b)/\(∀b q,ι b=some (some q)->(∃q',ι0 b=some (some q')/\q'.r=q.r)\/w.heap.size<=q.r)/\
   WR ι s.H s.nb w'/\(∀b q,ι b=some (some q)->q.fz=true->b<s.ro)/\Fr (roI ι0 s.ro) w w'/\RetR ι { val:=v,pan:=pan } e
theorem F8 {α:Type} {E:List Ent} (hE:∀x∈E,gC P x) {L:List Sub} {f:Nat} {fn:Func} {c:Code} {ac:AC} (hf:P.funcs[f]?=some fn) (hb:fn.body=some c) (hc:ac.code=c)
  (hL:jg P fn.ntmps L ac) {args:List V} {H0:List (Nat×Blk)} {nb0 ro rb:Nat} {K:Bool->V->St->Option α} {z:α} (hn:Nat.ble args.length fn.ntmps=true)
  (h:run P E L fn.ntmps ac ⟨rt args 0,H0,nb0,nb0,ro,rb⟩ (finK P fn.results.toList K)=some z) (ι0:Inj) (w:World) (xs:Array Value) (hW:WR ι0 H0 nb0 w) (hfz:∀b q,ι0 b=some (some q)->q.fz=true->b<ro) (hgl:GL (roI ι0 ro) w) (hx:VRs ι0 args xs.toList):
  Calls P f xs w λe w'=>∃(pan:Bool) (v:V) (s:St) (ι:Inj),K pan v s=some z/\(∀b q,ι0 b=some q->ι b=some q\/s.rb<=b)/\(∀b q,ι b=some (some q)->(∃q',ι0 b=some (some q')/\q'.r=q.r)\/w.heap.size<=q.r)/\
   WR ι s.H s.nb w'/\(∀b q,ι b=some (some q)->q.fz=true->b<s.ro)/\Fr (roI ι0 s.ro) w w'/\RetR ι { val:=v,pan:=pan } e:=by
 have hlen:xs.size=args.length:=by simpa using hx.length
 have hn:=aH hn
 refine calls_of_wp hf hb ?_
 rw [<-hc]
 have hI:Inv fn.ntmps ι0 ⟨w,[]⟩ ι0 ⟨rt args 0,H0,nb0,nb0,ro,rb⟩ { tmps:=xs++Array.replicate (fn.ntmps - xs.size) undef,defers:=[] } w:=by
  refine ⟨by simp;omega,rfl,λt v hv=>?_,hW,λ_ _ h=>.inl h,λ_ q h=>.inl ⟨q,h,rfl⟩,Fr.refl _ _,λb r h=>hW.low b r h,hfz,hgl⟩
  rw [qd,ae (rC _)] at hv
  simp only [wx] at hv
  cases hl:args[t]? with
  | none=>simp [hl] at hv
  | some u=>
   simp only [hl,eu,aq] at hv;subst hv
   obtain ⟨x,h1,h2⟩:=hx.get hl
   have h1':xs[t]?=some x:=by simpa using h1
   have hlt:t<xs.size:=by
    rcases aG t xs.size with h' | h'
    ·exact h'
    ·rw [uP h'] at h1';cases h1'
   exact ⟨x,by rw [L9 hlt];exact h1',h2⟩
 refine rI ?_ (nF hE ac _ _ z hL h ι0 ⟨w,[]⟩ ι0 _ w hI)
 rintro e a' w' ⟨ex,s',ι',h1,h2,h3⟩
 have fin:finK P fn.results.toList K .ret s'=some z->∃v,(results fn a'.tmps).run P w'=.ok v w'/\∃(pan:Bool) (u:V) (s:St) (ι:Inj),K pan u s=some z/\(∀b q,ι0 b=some q->ι b=some q\/s.rb<=b)/\(∀b q,ι b=some (some q)->(∃q',ι0 b=some (some q')/\q'.r=q.r)\/w.heap.size<=q.r)/\
   WR ι s.H s.nb w'/\(∀b q,ι b=some (some q)->q.fz=true->b<s.ro)/\Fr (roI ι0 s.ro) w w'/\RetR ι { val:=u,pan:=pan } (.returned v):=by
  intro h3
  simp only [finK] at h3
  obtain ⟨v,x,g1,g2,g3⟩:=xH (fn:=fn) (c:=λv=>K false v s') h2 h3
  exact ⟨x,g3,false,v,s',ι',g1,h2.ext,h2.new,h2.mem,h2.fz,h2.fr,rfl,g2⟩
 cases ex with
 | normal=>
  simp only [ExR] at h1;subst h1
  exact ⟨h2.defers,fin h3⟩
 | ret=>
  simp only [ExR] at h1;subst h1
  exact ⟨h2.defers,fin h3⟩
 | exit id=>simp [finK] at h3
 | pan v=>
  obtain ⟨x,rfl,hx⟩:=h1
  exact ⟨h2.defers,true,v,s',ι',h3,h2.ext,h2.new,h2.mem,h2.fz,h2.fr,rfl,x,rfl,hx⟩
mutual
def V.flat:V->Bool
 | .b _ | .i _ _ | .s _ | .pn | .sn | .nf | .ni | .ai _ _ _ | .unk=>true
 | .p _ _ | .sl _ _ _ _ | .pr _ _ _ _ | .ws _ | .rs _ _ _ _ _ | .mp _=>false
 | .fn _ l | .ag l | .tp l=>V.flats l
 | .it _ v=>V.flat v
def V.flats:List V->Bool
 | []=>true
 | v::l=>V.flat v&&V.flats l
end
mutual
theorem VR.flat {ι ι':Inj}:∀(v:V) (x:Value),V.flat v=true->VR ι v x->VR ι' v x
 | .b _,_,_,hx | .i _ _,_,_,hx | .s _,_,_,hx | .pn,_,_,hx | .sn,_,_,hx | .nf,_,_,hx | .ni,_,_,hx | .ai _ _ _,_,_,hx | .unk,_,_,hx=>by simpa only [VR] using hx
 | .p b o,x,hf,hx=>by simp [V.flat] at hf
 | .mp b,x,hf,hx=>by simp [V.flat] at hf
 | .pr z b j o,x,hf,hx=>by simp [V.flat] at hf
 | .ws b,x,hf,hx=>by simp [V.flat] at hf
 | .rs z b j n _,x,hf,hx=>by simp [V.flat] at hf
 | .sl b o len cap,x,hf,hx=>by simp [V.flat] at hf
 | .fn f cap,x,hf,hx=>by
  simp only [V.flat] at hf
  simp only [VR] at hx ⊢
  obtain ⟨cs,h1,h2⟩:=hx
  exact ⟨cs,h1,VRs.flat _ _ hf h2⟩
 | .it t v,x,hf,hx=>by
  simp only [V.flat] at hf
  simp only [VR] at hx ⊢
  obtain ⟨y,h1,h2⟩:=hx
  exact ⟨y,h1,VR.flat _ _ hf h2⟩
 | .ag l,x,hf,hx=>by
  simp only [V.flat] at hf
  simp only [VR] at hx ⊢
  obtain ⟨cs,h1,h2⟩:=hx
  exact ⟨cs,h1,VRs.flat _ _ hf h2⟩
 | .tp l,x,hf,hx=>by
  simp only [V.flat] at hf
  simp only [VR] at hx ⊢
  obtain ⟨cs,h1,h2⟩:=hx
  exact ⟨cs,h1,VRs.flat _ _ hf h2⟩
theorem VRs.flat {ι ι':Inj}:∀(l:List V) (xs:List Value),V.flats l=true->VRs ι l xs->VRs ι' l xs
 | [],_,_,hx=>by simpa [VRs] using hx
 | v::l,xs,hf,hx=>by
  simp only [V.flats,az] at hf
  simp only [VRs] at hx ⊢
  obtain ⟨y,ys,h1,h2,h3⟩:=hx
  exact ⟨y,ys,h1,VR.flat _ _ hf.1 h2,VRs.flat _ _ hf.2 h3⟩
end
def io:Inj:=λ_=>none
def kl (P:Program) (f:Nat) (args:List V) (v:V):Prop:=
 ∀(w:World) (xs:Array Value),GL io w->VRs io args xs.toList->Calls P f xs w λe w'=>∃x,e=.returned x/\VR io v x/\Fr io w w'
theorem G3 {ro:Nat} {w w':World} (h:Fr (roI io ro) w w'):Fr io w w':=by
 have:roI io ro=io:=by
  funext b
  unfold roI io
  cases Nat.blt b ro<;>rfl
 rwa [this] at h
theorem WR.nothing (w:World):WR io [] 0 w:=⟨λ_ _ _ _ h=>(by cases h),λ_ _ h=>(by cases h),λ_ _ h=>(by cases h),λ_ _ h=>(by cases h)⟩
theorem kl.call {f:Nat} {args:List V} {v:V} (h:kl P f args v) (hf:V.flats args=true) (H:List (Nat×Blk)) (fr:Nat):DA P f args H fr { val:=v }:=by
 intro ι nb w xs hW hg _ _ hx
 refine (h w xs (hg.mono λb q h=>by cases h) (VRs.flat _ _ hf hx)).mono λe w' ⟨x,h1,h2,h3⟩=>?_
 subst h1
 have hsz:=h3.size
 refine ⟨ι,λ_ _ _=>rfl,λb q h1=>by simp [isIn] at h1,λb q h1 h2=>by simp at h2;omega,λ_ _ h _=>h,?_,?_,rfl,VR.mono (λ_ _ h=>by cases h) _ _ h2⟩
 ·simp only [d9,r7]
  refine ⟨hW.inj,λb r hb=>?_,λb r hb=>?_,λb blk hl hd=>?_⟩
  ·have:=hW.low b r hb
   omega
  ·have:=hW.dom b r hb
   omega
  ·exact (hW.blk b blk hl hd).map rfl (λq hq=>h3.blk q.r (hW.dom b q hq) (λ_ _ h=>by cases h)) (λ_ _ x=>x) (λ_ x=>x)
 ·refine ⟨h3.os,h3.tape,h3.output,h3.size,λk hk _=>h3.blk k hk (λ_ _ h=>by cases h)⟩
end Go.Abs
