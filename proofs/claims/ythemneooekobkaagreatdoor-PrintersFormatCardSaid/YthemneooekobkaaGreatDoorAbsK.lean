
/- The interpreter is sound: regions, code, functions.
   Conditions: none; generic over the program. -/
import Derived.Test.YthemneooekobkaaGreatDoorAbsCut
import Derived.LoopN
import Derived.Scope
set_option linter.unusedSimpArgs false
set_option linter.unusedVariables false
namespace Go.Abs
variable {P:Program}
theorem yB {α:Type} {E:List Ent} (j:∀x∈E,fM P x) {n:Nat} {ι0:Inj} {w0:Base} {ops:List Oper} {k:Ex->St->Option α} {z:α}:
  ∀(l:List Oper) (s:St) (ι:Inj) (a:Act) (w:World),Inv n ι0 w0 ι s a w->Dk P E n ops l s k=some z->
   wpList P ops.toArray (Post n ι0 w0 λex s'=>k ex s'=some z) l a w
 | [],s,ι,a,w,g,h=>⟨.normal,s,ι,rfl,g,h⟩
 | o::l,s,ι,a,w,g,h=>by
  simp only [Dk] at h;obtain ⟨f,s',h,e,p,_⟩:=MG g h;unfold wpList;cases f
  ·simp only at h;rw [p];simp only [bz,aE];split at h
   ·rename_i t;exact yB j l _ ι _ w (e.skip t) h
   ·cases h
  ·simp only at h;rw [p];simp only [aM];exact .inl (By j e (λb r=>e.fresh b r) (aX _) h (λs' d m w' i c=>yB j l s' d m w' c i)
    (λv s' d x m w' i q c=>⟨.pan v,s',d,⟨x,rfl,q⟩,c,i⟩))
theorem pL {α:Type} {E:List Ent} (p:∀x∈E,fM P x) {L:List Sub} {n:Nat}:∀(c:AC) (s:St) (k:Ex->St->Option α) (z:α),kb P n L c->run P E L n c s k=some z->
  SemC P n c.code s λex s'=>k ex s'=some z
 | .skip,s,k,z,_,h=>λι0 w0 ι a w g=>wp_skip ⟨.normal,s,ι,rfl,g,h⟩
 | .ret,s,k,z,_,h=>λι0 w0 ι a w g=>wp_ret ⟨.ret,s,ι,rfl,g,h⟩
 | .exit id,s,k,z,_,h=>λι0 w0 ι a w g=>wp_exit ⟨.exit id,s,ι,rfl,g,h⟩
 | .seq x y,s,k,z,hs,h=>by
  intro ι0 w0 ι a w g;simp only [kb] at hs;simp only [run] at h;refine wp_seq (wp_mono (pL p x s _ z hs.1 h ι0 w0 ι a w g) ?_);rintro e r w' ⟨ex,s',d,f,o,j⟩;cases ex with
  | normal=>simp only [ExR] at f;subst f;exact pL p y s' k z hs.2 j ι0 w0 d r w' o
  | exit id=>simp only [ExR] at f;subst f;exact ⟨.exit id,s',d,rfl,o,j⟩
  | ret=>simp only [ExR] at f;subst f;exact ⟨.ret,s',d,rfl,o,j⟩
  | pan v=>obtain ⟨x,rfl,hx⟩:=f;exact ⟨.pan v,s',d,⟨x,rfl,hx⟩,o,j⟩
 | .cond c x y,s,k,z,hs,h=>by
  intro ι0 w0 ι a w g;simp only [kb] at hs;simp only [run] at h;split at h
  ·rename_i b q;have t:=bu g.tmps q;simp only [VR] at t;cases b
   ·exact wp_cond_false t (pL p y s k z hs.2 h ι0 w0 ι a w g)
   ·exact wp_cond_true t (pL p x s k z hs.1 h ι0 w0 ι a w g)
  ·cases h
 | .block id x,s,k,z,hs,h=>by
  intro ι0 w0 ι a w g;simp only [kb] at hs;simp only [run] at h;refine wp_block (wp_mono (pL p x s _ z hs h ι0 w0 ι a w g) ?_);rintro e r w' ⟨ex,s',d,f,o,j⟩;cases ex with
  | normal=>simp only [ExR] at f;subst f;exact ⟨.normal,s',d,rfl,o,j⟩
  | exit i=>
   simp only [ExR] at f;subst f;simp only [Exit.inBlock];cases q:Nat.beq i id with
   | true=>
    simp only [q] at j;rw [ae (bB q)];exact ⟨.normal,s',d,rfl,o,j⟩
   | false=>
    simp only [q] at j;rw [ab (by rintro rfl;simp at q)];exact ⟨.exit i,s',d,rfl,o,j⟩
  | ret=>simp only [ExR] at f;subst f;exact ⟨.ret,s',d,rfl,o,j⟩
  | pan v=>obtain ⟨x,rfl,hx⟩:=f;exact ⟨.pan v,s',d,⟨x,rfl,hx⟩,o,j⟩
 | .reg id ops,s,k,z,_,h=>λι0 w0 ι a w g=>wp_region_lit (yB p ops s ι a w g h)
 | .draw id ops,s,k,z,_,h=>Qj p h id
 | .sub m c,s,k,z,hs,h=>by
  simp only [kb] at hs;simp only [run] at h;exact hs α s k z h
 | .loop c,s,k,z,hs,h=>by
  simp only [kb] at hs;simp only [run] at h;intro ι0 w0 ι a w g;refine wp_loop_rounds 12 ?_;generalize 12=m at h
  induction m generalizing s ι a w with
  | zero=>simp [RI] at h
  | succ m ih=>
   rw [rounds_succ];simp only [RI] at h;refine uB ?_ (pL p c s _ z hs h ι0 w0 ι a w g);rintro e r w' ⟨ex,s',d,f,o,j⟩;cases ex with
   | normal=>simp only [ExR] at f;subst f;exact ih s' d r w' (by assumption) (by assumption)
   | exit id=>simp only [ExR] at f;subst f;exact ⟨.exit id,s',d,rfl,o,j⟩
   | ret=>simp only [ExR] at f;subst f;exact ⟨.ret,s',d,rfl,o,j⟩
   | pan v=>obtain ⟨x,rfl,hx⟩:=f;exact ⟨.pan v,s',d,⟨x,rfl,hx⟩,o,j⟩
 | .scope c,s,k,z,hs,h=>by
  simp only [kb] at hs;simp only [run] at h;intro ι0 w0 ι a w g;refine wp_scope_straight (uB ?_ (pL p c s _ z hs h ι0 w0 ι a w g));rintro e r w' ⟨ex,s',d,f,o,j⟩;cases ex with
  | normal=>simp only [ExR] at f;subst f;exact ⟨.normal,s',d,rfl,o,j⟩
  | exit id=>simp only [ExR] at f;subst f;exact ⟨.exit id,s',d,rfl,o,j⟩
  | ret=>simp only [ExR] at f;subst f;exact ⟨.ret,s',d,rfl,o,j⟩
  | pan v=>obtain ⟨x,rfl,hx⟩:=f;exact ⟨.pan v,s',d,⟨x,rfl,hx⟩,o,j⟩
 | .label l,s,k,z,_,h=>λι0 w0 ι a w g=>wp_label ⟨.normal,s,ι,rfl,g,h⟩
 | .bad c,s,k,z,_,h=>by simp [run] at h
def tW:List V->Nat->List (Nat×Option V)
 | [],_=>[]
 | v::l,j=>(j,some v)::tW l (j+1)
def retK {α:Type} (P:Program):List ResultVar->St->(List V->Option α)->Option α
 | [],_,c=>c []
 | .tmp t::r,s,c=>match look s.T t with
  | some (some v)=>retK P r s λl=>c (v::l)
  | _=>none
 | .cell t a::r,s,c=>match look s.T t with
  | some (some (.p b o))=>match look s.H b with
   | some blk=>zF P a blk o λv=>retK P r s λl=>c (v::l)
   | none=>none
  | _=>none
def L9:List V->V
 | [v]=>v
 | l=>.tp l
def finK {α:Type} (P:Program) (a:List ResultVar) (K:Bool->V->St->Option α):Ex->St->Option α
 | .normal,s=>retK P a s λl=>K false (L9 l) s
 | .ret,s=>retK P a s λl=>K false (L9 l) s
 | .pan v,s=>K true v s
 | .exit _,_=>none
theorem sU:∀(l:List V) (j t:Nat),look (tW l j) t=if j<=t then (l[t - j]?).map some else none
 | [],j,t=>by simp [tW,look]
 | v::l,j,t=>by
  simp only [tW,aV,sU l (j+1) t];by_cases h:j=t
  ·subst h;simp
  ·simp only [h,aE];by_cases a:j<=t
   ·rw [ae (by omega),ae a,show t - j=(t - (j+1))+1 by omega];rfl
   ·rw [ab (by omega),ab a]
def Qk (b:Array Value):ResultVar->Sem Value
 | .tmp t=>pure (b.getD t undef)
 | .cell a t=>do loadVar t (<-asAddr (b.getD a undef))
theorem An (fn:Func) (b:Array Value):results fn b=(do
  let a <-fn.results.mapM (Qk b)
  pure (if h:a.size=1 then a[0] else .tuple a)):=by
 unfold results;congr 2
theorem GR {α:Type} {n:Nat} {ι0 ι:Inj} {w0:Base} {s:St} {a:Act} {w:World} (f:Inv n ι0 w0 ι s a w):∀(e:List ResultVar) (c:List V->Option α) (z:α),retK P e s c=some z->
  ∃l d,c l=some z/\VRs ι l d/\(e.mapM (Qk a.tmps)).run P w=.ok d w
 | [],c,z,h=>⟨[],[],h,by simp [VRs],rfl⟩
 | .tmp t::e,c,z,h=>by
  simp only [retK] at h;split at h
  ·rename_i v j;obtain ⟨x,k,g⟩:=f.tmps t v j;obtain ⟨l,d,q,i,m⟩:=GR f e _ z h;refine ⟨v::l,x::d,q,by simp only [VRs];exact ⟨x,d,rfl,g,i⟩,?_⟩;have hx:a.tmps.getD t undef=x:=by rw [rq,k];rfl
   simp only [zb,Qk,ay,aF,aA,m,hx]
  ·cases h
 | .cell t y::e,c,z,h=>by
  simp only [retK] at h;split at h
  ·rename_i b o j;obtain ⟨x,k,g⟩:=f.tmps t _ j;split at h
   ·rename_i blk B;obtain ⟨v,X,r,E,C,A,D⟩:=Jc f.mem B h;obtain ⟨l,d,q,i,m⟩:=GR f e _ z E;refine ⟨v::l,X::d,q,by simp only [VRs];exact ⟨X,d,rfl,D,i⟩,?_⟩;simp only [VR] at g;obtain ⟨F,u,rfl⟩:=g;rw [C] at u;cases u;have hx:a.tmps.getD t undef=.pointer (some ⟨r.r,o,none⟩):=by rw [rq,k];rfl
    have p:(loadVar y ⟨r.r,o,none⟩).run P w=.ok X w:=by
     simpa only [Instr.loadAt,Instr.sureAddr,ay,aF,aA] using A
    simp only [zb,Qk,ay,aA,m,hx,asAddr,aF,p]
   ·cases h
  ·cases h
theorem Rh {ι:Inj} {l:List V} {b:List Value} (h:VRs ι l b):VR ι (L9 l) (if h:b.toArray.size=1 then b.toArray[0] else .tuple b.toArray):=by
 have d:=h.length;unfold L9;split
 ·rename_i v;simp only [VRs] at h;obtain ⟨y,e,rfl,a,rfl⟩:=h;simpa using a
 ·rename_i c;have:¬b.toArray.size=1:=by
   intro a;simp only [y4] at a;rw [d] at a
   match l,a with
   | [v],_=>exact c v rfl
  rw [dif_neg this];simp only [VR];exact ⟨_,rfl,by simpa using h⟩
theorem Au {α:Type} {fn:Func} {n:Nat} {ι0 ι:Inj} {w0:Base} {s:St} {a:Act} {w:World} (b:Inv n ι0 w0 ι s a w) {c:V->Option α} {z:α}
  (h:retK P fn.results.toList s (λl=>c (L9 l))=some z):∃v x,c v=some z/\VR ι v x/\(results fn a.tmps).run P w=.ok x w:=by
 obtain ⟨l,g,d,e,f⟩:=GR b _ _ _ h;refine ⟨_,_,d,Rh e,?_⟩;rw [An,SG];simp only [ay,Sem.run_map,f,aA,aF]
def BF {α:Type} (P:Program) (f:Nat) (args:List V) (H0:List (Nat×Blk)) (nb0 ro:Nat) (K:Bool->V->St->Option α) (z:α):Prop:=
 ∀(ι0:Inj) (w:World) (a:Array Value),WR ι0 H0 nb0 w->(∀b q,ι0 b=some (some q)->q.fz=true->b<ro)->GL (roI ι0 ro) w->VRs ι0 args a.toList->
  Calls P f a w λe w'=>∃(pan:Bool) (v:V) (s:St) (ι:Inj),K pan v s=some z/\(∀b q,ι0 b=some q->ι b=some q\/s.rb<=b)/\(∀b q,ι b=some (some q)->(∃c,ι0 b=some (some c)/\c.r=q.r)\/w.heap.size<=q.r)/\
   WR ι s.H s.nb w'/\(∀b q,ι b=some (some q)->q.fz=true->b<s.ro)/\Fr (roI ι0 s.ro) w w'/\RetR ι { val:=v,pan:=pan } e
theorem L8 {α:Type} {E:List Ent} (R:∀x∈E,fM P x) {L:List Sub} {f:Nat} {fn:Func} {c:Code} {ac:AC} (F:P.funcs[f]?=some fn) (I:fn.body=some c) (hc:ac.code=c)
  (N:kb P fn.ntmps L ac) {args:List V} {H0:List (Nat×Blk)} {nb0 ro rb:Nat} {K:Bool->V->St->Option α} {z:α} (D:Nat.ble args.length fn.ntmps=true)
  (h:run P E L fn.ntmps ac ⟨tW args 0,H0,nb0,nb0,ro,rb⟩ (finK P fn.results.toList K)=some z) (ι0:Inj) (w:World) (d:Array Value) (B:WR ι0 H0 nb0 w) (n:∀b q,ι0 b=some (some q)->q.fz=true->b<ro) (p:GL (roI ι0 ro) w) (hx:VRs ι0 args d.toList):
  Calls P f d w λe w'=>∃(pan:Bool) (v:V) (s:St) (ι:Inj),K pan v s=some z/\(∀b q,ι0 b=some q->ι b=some q\/s.rb<=b)/\(∀b q,ι b=some (some q)->(∃m,ι0 b=some (some m)/\m.r=q.r)\/w.heap.size<=q.r)/\
   WR ι s.H s.nb w'/\(∀b q,ι b=some (some q)->q.fz=true->b<s.ro)/\Fr (roI ι0 s.ro) w w'/\RetR ι { val:=v,pan:=pan } e:=by
 have C:d.size=args.length:=by simpa using hx.length
 have D:=aL D;refine calls_of_wp F I ?_;rw [<-hc];have G:Inv fn.ntmps ι0 ⟨w,[]⟩ ι0 ⟨tW args 0,H0,nb0,nb0,ro,rb⟩ { tmps:=d++Array.replicate (fn.ntmps - d.size) undef,defers:=[] } w:=by
  refine ⟨by simp;omega,rfl,λt v j=>?_,B,λ_ _ h=>.inl h,λ_ q h=>.inl ⟨q,h,rfl⟩,Fr.refl _ _,λb r h=>B.low b r h,n,p⟩;rw [sU,ae (kE _)] at j;simp only [ub] at j;cases y:args[t]? with
  | none=>simp [y] at j
  | some u=>
   simp only [y,fg,av] at j;subst j;obtain ⟨x,g,a⟩:=hx.get y;have h1':d[t]?=some x:=by simpa using g
   have o:t<d.size:=by
    rcases aH t d.size with A | A
    ·exact A
    ·rw [wx A] at h1';cases h1'
   exact ⟨x,by rw [VT o];exact h1',a⟩
 refine uB ?_ (pL R ac _ _ z N h ι0 ⟨w,[]⟩ ι0 _ w G);rintro e M w' ⟨ex,s',k,g,a,i⟩;have l:finK P fn.results.toList K .ret s'=some z->∃v,(results fn M.tmps).run P w'=.ok v w'/\∃(pan:Bool) (u:V) (s:St) (ι:Inj),K pan u s=some z/\(∀b q,ι0 b=some q->ι b=some q\/s.rb<=b)/\(∀b q,ι b=some (some q)->(∃m,ι0 b=some (some m)/\m.r=q.r)\/w.heap.size<=q.r)/\
   WR ι s.H s.nb w'/\(∀b q,ι b=some (some q)->q.fz=true->b<s.ro)/\Fr (roI ι0 s.ro) w w'/\RetR ι { val:=u,pan:=pan } (.returned v):=by
  intro i;simp only [finK] at i;obtain ⟨v,x,J,Q,O⟩:=Au (fn:=fn) (c:=λv=>K false v s') a i;exact ⟨x,O,false,v,s',k,J,a.ext,a.new,a.mem,a.fz,a.fr,rfl,Q⟩
 cases ex with
 | normal=>
  simp only [ExR] at g;subst g;exact ⟨a.defers,l i⟩
 | ret=>
  simp only [ExR] at g;subst g;exact ⟨a.defers,l i⟩
 | exit id=>simp [finK] at i
 | pan v=>
  obtain ⟨x,rfl,hx⟩:=g;exact ⟨a.defers,true,v,s',k,i,a.ext,a.new,a.mem,a.fz,a.fr,rfl,x,rfl,hx⟩
mutual
def V.flat:V->Bool
 | .b _ | .i _ _ | .s _ | .pn | .sn | .nf | .ni | .ai _ _ _ | .unk=>true
 | .p _ _ | .sl _ _ _ _ | .pr _ _ _ _ | .ws _ | .rs _ _ _ _ _ | .mp _=>false
 | .fn _ l | .ag l | .tp l=>V.flats l
 | .it _ v=>V.flat v
def V.flats:List V->Bool
 | []=>true
 | v::l=>V.flat v&&V.flats l
end
mutual
theorem VR.flat {ι J:Inj}:∀(v:V) (x:Value),V.flat v=true->VR ι v x->VR J v x
 | .b _,_,_,hx | .i _ _,_,_,hx | .s _,_,_,hx | .pn,_,_,hx | .sn,_,_,hx | .nf,_,_,hx | .ni,_,_,hx | .ai _ _ _,_,_,hx | .unk,_,_,hx=>by simpa only [VR] using hx
 | .p b o,x,C,hx=>by simp [V.flat] at C
 | .mp b,x,C,hx=>by simp [V.flat] at C
 | .pr z b j o,x,C,hx=>by simp [V.flat] at C
 | .ws b,x,C,hx=>by simp [V.flat] at C
 | .rs z b j n _,x,C,hx=>by simp [V.flat] at C
 | .sl b o len cap,x,C,hx=>by simp [V.flat] at C
 | .fn f cap,x,C,hx=>by
  simp only [V.flat] at C;simp only [VR] at hx ⊢;obtain ⟨G,E,F⟩:=hx;exact ⟨G,E,VRs.flat _ _ C F⟩
 | .it t v,x,C,hx=>by
  simp only [V.flat] at C;simp only [VR] at hx ⊢;obtain ⟨y,E,F⟩:=hx;exact ⟨y,E,VR.flat _ _ C F⟩
 | .ag l,x,C,hx=>by
  simp only [V.flat] at C;simp only [VR] at hx ⊢;obtain ⟨G,E,F⟩:=hx;exact ⟨G,E,VRs.flat _ _ C F⟩
 | .tp l,x,C,hx=>by
  simp only [V.flat] at C;simp only [VR] at hx ⊢;obtain ⟨G,E,F⟩:=hx;exact ⟨G,E,VRs.flat _ _ C F⟩
theorem VRs.flat {ι E:Inj}:∀(l:List V) (F:List Value),V.flats l=true->VRs ι l F->VRs E l F
 | [],_,_,hx=>by simpa [VRs] using hx
 | v::l,F,C,hx=>by
  simp only [V.flats,az] at C;simp only [VRs] at hx ⊢;obtain ⟨y,G,J,O,Q⟩:=hx;exact ⟨y,G,J,VR.flat _ _ C.1 O,VRs.flat _ _ C.2 Q⟩
end
def gS:Inj:=λ_=>none
def nB (P:Program) (f:Nat) (args:List V) (v:V):Prop:=
 ∀(w:World) (a:Array Value),GL gS w->VRs gS args a.toList->Calls P f a w λe w'=>∃x,e=.returned x/\VR gS v x/\Fr gS w w'
theorem Py {ro:Nat} {w w':World} (h:Fr (roI gS ro) w w'):Fr gS w w':=by
 have:roI gS ro=gS:=by
  funext b;unfold roI gS;cases Nat.blt b ro<;>rfl
 rwa [this] at h
theorem WR.nothing (w:World):WR gS [] 0 w:=⟨λ_ _ _ _ h=>(by cases h),λ_ _ h=>(by cases h),λ_ _ h=>(by cases h),λ_ _ h=>(by cases h)⟩
theorem nB.call {f:Nat} {args:List V} {v:V} (h:nB P f args v) (O:V.flats args=true) (H:List (Nat×Blk)) (fr:Nat):HB P f args H fr { val:=v }:=by
 intro ι nb w Y E X _ _ hx;refine (h w Y (X.mono λb q h=>by cases h) (VRs.flat _ _ O hx)).mono λe w' ⟨x,F,J,C⟩=>?_;subst F;have W:=C.size;refine ⟨ι,λ_ _ _=>rfl,λb q F=>by simp [isIn] at F,λb q F J=>by simp at J;omega,λ_ _ h _=>h,?_,?_,rfl,VR.mono (λ_ _ h=>by cases h) _ _ J⟩
 ·simp only [dS,uG];refine ⟨E.inj,λb r G=>?_,λb r G=>?_,λb blk hl Z=>?_⟩
  ·have:=E.low b r G;omega
  ·have:=E.dom b r G;omega
  ·exact (E.blk b blk hl Z).map rfl (λq Q=>C.blk q.r (E.dom b q Q) (λ_ _ h=>by cases h)) (λ_ _ x=>x) (λ_ x=>x)
 ·refine ⟨C.os,C.tape,C.output,C.size,λk U _=>C.blk k U (λ_ _ h=>by cases h)⟩
end Go.Abs
