/- Functions that defer a closure: what they come to.
   Conditions: none; generic over the program. -/
import Derived.Test.YtpkdacjndoiabaaGreatDoorAbsP
import Derived.Recover
set_option linter.unusedSimpArgs false
namespace Go.Abs
variable {P:Program}
def runL {α:Type} (P:Program) (E:List Ent) (L:List Sub) (n:Nat) (k:Ex->St->Option α):List AC->St->Option α
 | [],s=>k .normal s
 | a::l,s=>run P E L n a s λex s=>match ex with
  | .normal=>runL P E L n k l s
  | .exit id=>k (.exit id) s
  | .ret=>k .ret s
  | .pan v=>k (.pan v) s
def yw {α:Type} (P:Program) (E:List Ent) (L:List Sub) (nC:Nat) (acC:AC) (tr:Nat) (cap:List V) (v:V) (s:St) (k:St->Option α):Option α:=
 match Nat.blt tr nC&&(Nat.ble cap.length nC&&Nat.ble cap.length tr) with
 | true=>run P E L nC acC ⟨(tr,some v)::sA cap 0,s.H,s.nb,s.nb,s.ro,s.nb⟩ λex s2=>match Nat.beq s2.ro s.ro&&Nat.beq s2.rb s.nb with
  | true=>match ex with
   | .normal=>k { s with H:=s2.H,nb:=s2.nb }
   | .ret=>k { s with H:=s2.H,nb:=s2.nb }
   | .exit _=>none
   | .pan _=>none
  | false=>none
 | false=>none
def OY {α:Type} (P:Program) (E:List Ent) (L:List Sub) (n:Nat) (As:List AC) (o1:Oper) (g:Operand) (gid:Nat) (acB:AC) (EC:List Ent) (LC:List Sub) (nC:Nat) (acC:AC) (tr:Nat)
  (rv:List ResultVar) (K:Bool->V->St->Option α) (s:St):Option α:=
 runL P E L n (λex s=>match ex with
  | .normal=>Iw P E n s.nb o1 s (λs=>match opd s.T g with
   | some (.fn f cap)=>match Nat.beq f gid&&Nat.blt f 1000000 with
    | true=>run P E L n acB { s with lo:=s.nb,rb:=s.nb } λex s'=>match Nat.beq s'.ro s.ro&&Nat.beq s'.rb s.nb with
     | true=>match ex with
      | .normal=>yw P EC LC nC acC tr cap .ni { s' with lo:=s.lo,rb:=s.rb } λs=>finK P rv K .ret s
      | .ret=>yw P EC LC nC acC tr cap .ni { s' with lo:=s.lo,rb:=s.rb } λs=>finK P rv K .ret s
      | .pan v=>yw P EC LC nC acC tr cap v { s' with lo:=s.lo,rb:=s.rb } λs=>finK P rv K .ret s
      | .exit _=>none
     | false=>none
    | false=>none
   | _=>none) (λ_ _=>none)
  | .exit id=>finK P rv K (.exit id) s
  | .ret=>finK P rv K .ret s
  | .pan v=>finK P rv K (.pan v) s) As s
def Ec:List AC->Code->Code
 | [],c=>c
 | a::l,c=>.seq a.code (Ec l c)
theorem I8 {α:Type} {E:List Ent} (hE:∀x∈E,gN P x) {L:List Sub} {n:Nat} {k:Ex->St->Option α} {z:α} {tail:Code} {ι0:Inj} {w0:Base} {Q:Exit->Act->World->Prop}
  (ht:∀s ι a w,Inv n ι0 w0 ι s a w->k .normal s=some z->tail.wp P Q a w)
  (hq:∀ex s ι e a w,ex≠.normal->ExR ι ex e->Inv n ι0 w0 ι s a w->k ex s=some z->Q e a w):∀(As:List AC) (s:St) (ι:Inj) (a:Act) (w:World),(∀x∈As,jC P n L x)->
   Inv n ι0 w0 ι s a w->runL P E L n k As s=some z->(Ec As tail).wp P Q a w
 | [],s,ι,a,w,_,hI,h=>ht s ι a w hI h
 | x::l,s,ι,a,w,hs,hI,h=>by
  simp only [runL] at h
  refine wp_seq (wp_mono (om hE x s _ z (hs x (by simp)) h ι0 w0 ι a w hI) ?_)
  rintro e a' w' ⟨ex,s',ι',h1,h2,h3⟩
  cases ex with
  | normal=>simp only [ExR] at h1;subst h1;exact I8 hE ht hq l s' ι' a' w' (λy hy=>hs y (gq _ hy)) h2 h3
  | exit id=>simp only [ExR] at h1;subst h1;exact hq (.exit id) s' ι' _ a' w' (by simp) rfl h2 h3
  | ret=>simp only [ExR] at h1;subst h1;exact hq .ret s' ι' _ a' w' (by simp) rfl h2 h3
  | pan v=>obtain ⟨y,rfl,hx⟩:=h1;exact hq (.pan v) s' ι' _ a' w' (by simp) ⟨y,rfl,hx⟩ h2 h3
theorem Inv.inner {n:Nat} {ι0 ι:Inj} {w0:Base} {s:St} {a:Act} {w:World} {D:List Deferred} (hI:Inv n ι0 w0 ι s a w) (hD:a.defers=D):Inv n ι ⟨w,D⟩ ι { s with lo:=s.nb,rb:=s.nb } a w:=
 ⟨hI.size,hD,hI.tmps,hI.mem,λ_ _ h=>.inl h,λ_ q h=>.inl ⟨q,h,rfl⟩,Fr.refl _ _,λb r h=>hI.mem.low b r h,hI.fz,hI.glHere λ_ _ hb=>⟨pw hb,Jn hb⟩⟩
theorem Inv.outer {n n':Nat} {ι0 ι ι':Inj} {w0 w1:Base} {s s':St} {a a':Act} {w w':World} (hI:Inv n ι0 w0 ι s a w) (hw:w1.w=w) (hI':Inv n' ι w1 ι' s' a' w') (hro:s'.ro=s.ro) (hrb:s'.rb=s.nb):
  (∀b q,ι b=some q->ι' b=some q)/\(∀b q,ι0 b=some q->ι' b=some q\/s.rb<=b)/\(∀b q,ι' b=some (some q)->(∃q',ι0 b=some (some q')/\q'.r=q.r)\/w0.w.heap.size<=q.r)/\Fr (roI ι0 s.ro) w0.w w'/\
   (∀b q,ι' b=some (some q)->q.fz=true->b<s.ro):=by
 subst hw
 have hext:∀b q,ι b=some q->ι' b=some q:=by
  intro b q hb
  rcases hI'.ext b q hb with h | h
  ·exact h
  ·have:=hI.mem.low b q hb;omega
 refine ⟨hext,λb q hb=>(hI.ext b q hb).imp (hext b q) id,λb q hb=>?_,hI.fr.trans (λb q hb=>?_) hI'.fr,λb q hb hq=>by have:=hI'.fz b q hb hq;omega⟩
 ·rcases hI'.new b q hb with ⟨q',hq',hr⟩ | h
  ·rw [<-hr];exact hI.new b q' hq'
  ·exact .inr (qC hI.fr.size h)
 ·have hb2:=pw hb
  have hge:s.ro<=b:=by
   rw [hro] at hb
   unfold roI at hb
   cases hlt:Nat.blt b s.ro with
   | true=>simp [hlt] at hb
   | false=>
    rcases aG b s.ro with h | h
    ·rw [show Nat.blt b s.ro=true from dG h] at hlt;cases hlt
    ·exact h
  exact (hI.new b q hb2).imp (λ⟨q',h,hr⟩=>⟨q',Bl h hge,hr⟩) id
theorem Ku {α:Type} {E:List Ent} (hE:∀x∈E,gN P x) {L:List Sub} {g:Nat} {fn:Func} {acC:AC} {idR:Nat} {oR:Oper} {tr:Nat} {crest:Code} (hf:P.funcs[g]?=some fn)
  (hb:fn.body=some (.seq (.region idR #[oR] false) crest)) (hoR:oR.op=.call ⟨.builtin .recover,#[],#[]⟩) (hgR:oR.guard=none) (hdR:oR.dst=some tr) (hres:fn.results=#[]) (hc:acC.code=crest)
  (hL:jC P fn.ntmps L acC) {cap:List V} {v:V} {s:St} {k:St->Option α} {z:α} (h:yw P E L fn.ntmps acC tr cap v s k=some z)
  {n:Nat} {ι0 ι:Inj} {w0:Base} {a:Act} {w:World} (hI:Inv n ι0 w0 ι s a w) {cs:List Value} (hcap:VRs ι cap cs) {x:Value} (hx:VR ι v x) {u u':FrameMode}
  (hu:(u=.returning/\u'=.returning/\x=.nilIface)\/∃y,u=.panicking [{ v:=y,recovered:=false }]/\u'=.panicking [{ v:=y,recovered:=true }]/\x=y):
  CallsD P g cs.toArray u w λe u'' w'=>u''=u'/\∃(y:Value) (s':St) (ι':Inj),e=.returned y/\k s'=some z/\Inv n ι0 w0 ι' s' a w'/\s'.T=s.T:=by
 unfold yw at h
 split at h
 case h_2=>cases h
 rename_i hbnd
 simp only [az] at hbnd
 have htr:tr<fn.ntmps:=aI hbnd.1
 have hcl:cap.length<=fn.ntmps:=aI hbnd.2.1
 have hct:cap.length<=tr:=aI hbnd.2.2
 have hlen:cs.length=cap.length:=hcap.length
 refine callsD_of_wpS hf hb λc₀ fs hc0=>?_
 have hrun:∀a:Act,(execOp a.eval oR).run P w=.ok .recover w:=by
  intro a
  simp [execOp,hoR,resolve,invoke,builtin]
 have core:∀fs':List Frame,fs'={ c₀ with mode:=u' }::fs->
   crest.wpS P (bodyPostS P fn c₀ fs λe u'' w'=>u''=u'/\∃(y:Value) (s':St) (ι':Inj),e=.returned y/\k s'=some z/\Inv n ι0 w0 ι' s' a w'/\s'.T=s.T)
    (({ tmps:=cs.toArray++Array.replicate (fn.ntmps - cs.toArray.size) undef,defers:=[] }:Act).put oR.dst x) fs' w:=by
  intro fs' hfs
  have hI2:Inv fn.ntmps ι ⟨w,[]⟩ ι ⟨(tr,some v)::sA cap 0,s.H,s.nb,s.nb,s.ro,s.nb⟩ (({ tmps:=cs.toArray++Array.replicate (fn.ntmps - cs.toArray.size) undef,defers:=[] }:Act).put oR.dst x) w:=by
   refine ⟨by rw [mP];simp;omega,by rw [je],?_,hI.mem,λ_ _ h=>.inl h,λ_ q h=>.inl ⟨q,h,rfl⟩,Fr.refl _ _,λb r h=>hI.mem.low b r h,hI.fz,hI.glHere λ_ _ hb=>⟨pw hb,Jn hb⟩⟩
   rw [hdR]
   refine TR.put (λt u hv=>?_) (by simp;omega) (λu hu=>by cases hu;exact hx)
   rw [rt,ae (sj _)] at hv
   simp only [wl] at hv
   cases hl:cap[t]? with
   | none=>simp [hl] at hv
   | some u=>
    simp only [hl,eK,aq] at hv;subst hv
    obtain ⟨x,h1,h2⟩:=hcap.get hl
    have h1':cs.toArray[t]?=some x:=by simpa using h1
    have hlt:t<cs.toArray.size:=by
     rcases aG t cs.toArray.size with h' | h'
     ·exact h'
     ·rw [vU h'] at h1';cases h1'
    exact ⟨x,by rw [QY hlt];exact h1',h2⟩
  subst hc hfs
  refine wpS_of_wp (sX ?_ (om hE acC _ _ z hL h ι ⟨w,[]⟩ ι _ w hI2))
  rintro e a' w' ⟨ex,s2,ι2,h1,h2,h3⟩
  split at h3
  case h_2=>cases h3
  rename_i hro
  simp only [az,iV] at hro
  obtain ⟨hro1,hro2⟩:=hro
  obtain ⟨hext,o1,o2,o3,o4⟩:=hI.outer rfl h2 hro1 hro2
  have hfin:Inv n ι0 w0 ι2 { s with H:=s2.H,nb:=s2.nb } a w':=⟨hI.size,hI.defers,hI.tmps.mono hext,h2.mem,o1,o2,o3,hI.low,o4,hI.gl⟩
  have hresults:(results fn a'.tmps).run P w'=.ok (.tuple #[]) w':=by
   rw [yG,hres]
   simp [aA]
  cases ex with
  | normal=>simp only [ExR] at h1;subst h1;exact ⟨h2.defers,u',rfl,_,hresults,rfl,_,_,ι2,rfl,h3,hfin,rfl⟩
  | ret=>simp only [ExR] at h1;subst h1;exact ⟨h2.defers,u',rfl,_,hresults,rfl,_,_,ι2,rfl,h3,hfin,rfl⟩
  | exit id=>cases h3
  | pan v=>cases h3
 refine wpS_seq (wpS_region ?_)
 show wpOpsS P #[oR] _ [0] _ _ w
 simp only [wpOpsS]
 have h0:(#[oR]:Array Oper)[0]?=some oR:=rfl
 rw [h0]
 simp only
 have hw:∀y,Region.wanted oR y=true:=λy=>by simp [Region.wanted,hgR]
 rw [hw]
 simp only [aQ,hrun]
 rcases hu with ⟨hu1,hu2,hu3⟩ | ⟨y,hu1,hu2,hu3⟩
 ·subst hu3
  have:recoverD (c₀::fs)=none:=by simp [recoverD,hc0,hu1]
  rw [this]
  exact core _ (by rw [hu2,<-hu1,<-hc0])
 ·subst hu3
  have:recoverD (c₀::fs)=some (x,{ c₀ with mode:=u' }::fs):=by simp [recoverD,hc0,hu1,hu2]
  rw [this]
  exact core _ rfl
theorem Nh {α:Type} {E:List Ent} (hE:∀x∈E,gN P x) {L:List Sub} {f:Nat} {fn:Func} {c:Code} {As:List AC} {o1 oD:Oper} {g:Operand} {gid idD:Nat} {acB:AC} {cB:Code} (hf:P.funcs[f]?=some fn)
  (hb:fn.body=some c) (hcB:acB.code=cB) (hc:Ec As (.seq (.region idD #[o1,oD] false) cB)=c) (hLA:∀x∈As,jC P fn.ntmps L x) (hLB:jC P fn.ntmps L acB) (hg1:o1.guard=none) (hgD:oD.guard=none)
  (hoD:oD.op=.defer ⟨.value g,#[],#[]⟩) (hdD:oD.dst=none)
  {EC:List Ent} (hEC:∀x∈EC,gN P x) {LC:List Sub} {fnC:Func} {acC:AC} {idR:Nat} {oR:Oper} {tr:Nat} {crest:Code} (hfC:P.funcs[gid]?=some fnC)
  (hbC:fnC.body=some (.seq (.region idR #[oR] false) crest)) (hoR:oR.op=.call ⟨.builtin .recover,#[],#[]⟩) (hgR:oR.guard=none) (hdR:oR.dst=some tr) (hres:fnC.results=#[]) (hcC:acC.code=crest)
  (hLC:jC P fnC.ntmps LC acC) (hEn:m4 P gid)
  {args:List V} {H0:List (Nat×Blk)} {nb0 ro rb:Nat} {K:Bool->V->St->Option α} {z:α} (hn:Nat.ble args.length fn.ntmps=true)
  (h:OY P E L fn.ntmps As o1 g gid acB EC LC fnC.ntmps acC tr fn.results.toList K ⟨sA args 0,H0,nb0,nb0,ro,rb⟩=some z):zU P f args H0 nb0 ro K z:=by
 intro ι0 w xs hW hfz hgl hx
 have hlen:xs.size=args.length:=by simpa using hx.length
 have hn:=aI hn
 refine calls_of_wp_defers hf hb ?_
 rw [<-hc]
 have hI:Inv fn.ntmps ι0 ⟨w,[]⟩ ι0 ⟨sA args 0,H0,nb0,nb0,ro,rb⟩ { tmps:=xs++Array.replicate (fn.ntmps - xs.size) undef,defers:=[] } w:=by
  refine ⟨by simp;omega,rfl,λt v hv=>?_,hW,λ_ _ h=>.inl h,λ_ q h=>.inl ⟨q,h,rfl⟩,Fr.refl _ _,λb r h=>hW.low b r h,hfz,hgl⟩
  rw [rt,ae (sj _)] at hv
  simp only [wl] at hv
  cases hl:args[t]? with
  | none=>simp [hl] at hv
  | some u=>
   simp only [hl,eK,aq] at hv;subst hv
   obtain ⟨x,h1,h2⟩:=hx.get hl
   have h1':xs[t]?=some x:=by simpa using h1
   have hlt:t<xs.size:=by
    rcases aG t xs.size with h' | h'
    ·exact h'
    ·rw [vU h'] at h1';cases h1'
   exact ⟨x,by rw [QY hlt];exact h1',h2⟩
 have fin:∀{D:List Deferred} (s':St) (ι':Inj) (a':Act) (w':World),Inv fn.ntmps ι0 ⟨w,D⟩ ι' s' a' w'->finK P fn.results.toList K .ret s'=some z->
   ∃v,(results fn a'.tmps).run P w'=.ok v w'/\∃(pan:Bool) (u:V) (s:St) (ι:Inj),K pan u s=some z/\(∀b q,ι0 b=some q->ι b=some q\/s.rb<=b)/\(∀b q,ι b=some (some q)->(∃q',ι0 b=some (some q')/\q'.r=q.r)\/w.heap.size<=q.r)/\
   WR ι s.H s.nb w'/\(∀b q,ι b=some (some q)->q.fz=true->b<s.ro)/\Fr (roI ι0 s.ro) w w'/\RetR ι { val:=u,pan:=pan } (.returned v):=by
  intro D s' ι' a' w' h2 h3
  simp only [finK] at h3
  obtain ⟨v,x,g1,g2,g3⟩:=yA (fn:=fn) (c:=λv=>K false v s') h2 h3
  exact ⟨x,g3,false,v,s',ι',g1,h2.ext,h2.new,h2.mem,h2.fz,h2.fr,rfl,g2⟩
 refine I8 hE ?_ ?_ As _ ι0 _ w hLA hI h
 ·
  intro s ι a w1 hI1 hk
  simp only at hk
  refine wp_seq (wp_region_lit (l:=[o1,oD]) ?_)
  unfold wpList
  have hw1:∀y,Region.wanted o1 y=true:=λy=>by simp [Region.wanted,hg1]
  have hwD:∀y,Region.wanted oD y=true:=λy=>by simp [Region.wanted,hgD]
  rw [hw1]
  simp only [aQ]
  refine .inl (ze hE hI1 (λb hb=>hI1.fresh b hb) (aV _) hk (λs2 ι2 a2 w2 hk2 hI2=>?_) (λv s' ι' x a' w' hk=>by cases hk))
  split at hk2
  case h_2=>cases hk2
  rename_i ff cap hgo
  split at hk2
  case h_2=>cases hk2
  rename_i hff
  simp only [az,iV] at hff
  obtain ⟨hff1,hff2⟩:=hff
  subst hff1
  obtain ⟨cs,hv1,hv2⟩:=Ol hI2.tmps hgo
  rw [Ey hff2] at hv1
  unfold wpList
  rw [hwD]
  simp only [aQ]
  refine .inl ?_
  unfold Oper.wp
  have hrun:(execOp a2.eval oD).run P w2=.ok (.defer { target:=.fn (.func ff) cs,args:=#[] }) w2:=by
   simp only [execOp,hoD,resolve,hv1,Deferred.ofValue,aw,aA,ay]
   simp
  rw [hrun,Oper.upon_defer,hdD]
  simp only [Act.put]
  unfold wpList
  simp only [Exit.then]
  have hI3:Inv fn.ntmps ι0 ⟨w,[{ target:=.fn (.func ff) cs,args:=#[] }]⟩ ι2 s2 { a2 with defers:={ target:=.fn (.func ff) cs,args:=#[] }::a2.defers } w2:=
   ⟨hI2.size,by rw [hI2.defers],hI2.tmps,hI2.mem,hI2.ext,hI2.new,hI2.fr,hI2.low,hI2.fz,hI2.gl⟩
  subst hcB
  refine sX ?_ (om hE acB _ _ z hLB hk2 ι2 ⟨w2,[{ target:=.fn (.func ff) cs,args:=#[] }]⟩ ι2 _ w2 (hI3.inner hI3.defers))
  rintro e a' w' ⟨ex,s',ι',h1,h2,h3⟩
  split at h3
  case h_2=>cases h3
  rename_i hro
  simp only [az,iV] at hro
  obtain ⟨hro1,hro2⟩:=hro
  obtain ⟨hext,o1,o2,o3,o4⟩:=hI3.outer rfl h2 hro1 hro2
  have hI4:Inv fn.ntmps ι0 ⟨w,[{ target:=.fn (.func ff) cs,args:=#[] }]⟩ ι' { s' with lo:=s2.lo,rb:=s2.rb } a' w':=
   ⟨h2.size,h2.defers,h2.tmps,h2.mem,o1,o2,by show Fr (roI ι0 s'.ro) w w';rw [hro1];exact o3,hI2.low,λb q hb hq=>by have:=o4 b q hb hq;simp only;omega,by show GL (roI ι0 s'.ro) w;rw [hro1];exact hI3.gl⟩
  have hcv:=VRs.mono hext _ _ hv2
  have hback:∀(v:V) (x:Value) (u u':FrameMode),VR ι' v x->u≠.run->(settle u'=.returning)->
    ((u=.returning/\u'=.returning/\x=.nilIface)\/∃y,u=.panicking [{ v:=y,recovered:=false }]/\u'=.panicking [{ v:=y,recovered:=true }]/\x=y)->
    yw P EC LC fnC.ntmps acC tr cap v { s' with lo:=s2.lo,rb:=s2.rb } (λs=>finK P fn.results.toList K .ret s)=some z->
    Leaves P fn a'.tmps (λe w'=>∃(pan:Bool) (u:V) (s:St) (ι:Inj),K pan u s=some z/\(∀b q,ι0 b=some q->ι b=some q\/s.rb<=b)/\(∀b q,ι b=some (some q)->(∃q',ι0 b=some (some q')/\q'.r=q.r)\/w.heap.size<=q.r)/\
     WR ι s.H s.nb w'/\(∀b q,ι b=some (some q)->q.fz=true->b<s.ro)/\Fr (roI ι0 s.ro) w w'/\RetR ι { val:=u,pan:=pan } e) a'.defers u w':=by
   intro v x u u' hvx hur hset hu ha
   rw [h2.defers]
   refine leaves_cons hur (f:=ff) (args:=cs.toList.toArray) ?_ ?_
   ·have:=hEn cs w'
    simpa [invoke] using this
   ·refine (Ku hEC hfC hbC hoR hgR hdR hres hcC hLC ha hI4 hcv hvx hu).mono ?_
    rintro e u'' w'' ⟨rfl,y,s3,ι3,rfl,h4,h5,h6⟩
    obtain ⟨v,g1,g2⟩:=fin s3 ι3 a' w'' h5 h4
    simp only [hset]
    exact ⟨v,g1,g2⟩
  cases ex with
  | normal=>simp only [ExR] at h1;subst h1;exact hback .ni .nilIface .returning .returning (by simp [VR]) (by simp) rfl (.inl ⟨rfl,rfl,rfl⟩) h3
  | ret=>simp only [ExR] at h1;subst h1;exact hback .ni .nilIface .returning .returning (by simp [VR]) (by simp) rfl (.inl ⟨rfl,rfl,rfl⟩) h3
  | exit id=>cases h3
  | pan v=>
   obtain ⟨x,rfl,hx⟩:=h1
   exact hback v x (.panicking [{ v:=x,recovered:=false }]) (.panicking [{ v:=x,recovered:=true }]) hx (by simp) (by simp [settle]) (.inr ⟨x,rfl,rfl,rfl⟩) h3
 ·rintro ex s ι e a w1 hne h1 h2 h3
  cases ex with
  | normal=>exact absurd rfl hne
  | exit id=>simp [finK] at h3
  | ret=>
   simp only [ExR] at h1;subst h1
   obtain ⟨v,g1,g2⟩:=fin s ι a w1 h2 h3
   show Leaves P fn a.tmps _ a.defers .returning w1
   rw [h2.defers]
   exact ⟨v,g1,g2⟩
  | pan v=>
   obtain ⟨x,rfl,hx⟩:=h1
   show Leaves P fn a.tmps _ a.defers (.panicking _) w1
   rw [h2.defers]
   exact ⟨true,v,s,ι,h3,h2.ext,h2.new,h2.mem,h2.fz,h2.fr,rfl,x,rfl,hx⟩
def pL:Nat->AC->List AC
 | n+1,.seq a b=>a::pL n b
 | _,_=>[]
def jX:Nat->AC->AC
 | n+1,.seq _ b=>jX n b
 | _,c=>c
theorem uw:∀(n:Nat) (c:AC),Ec (pL n c) (jX n c).code=c.code
 | 0,c=>by simp [pL,jX,Ec]
 | n+1,.seq a b=>by simp [pL,jX,Ec,uw n b,AC.code]
 | n+1,.skip | n+1,.ret | n+1,.exit _ | n+1,.cond _ _ _ | n+1,.block _ _ | n+1,.reg _ _ | n+1,.draw _ _ | n+1,.sub _ _ | n+1,.loop _ | n+1,.scope _ | n+1,.label _ | n+1,.bad _=>by
  simp [pL,jX,Ec]
def Ox:AC->List Oper
 | .seq (.reg _ l) _=>l
 | _=>[]
def getO (l:List Oper) (i:Nat):Oper:=l.getD i default
theorem wx {n:Nat} {L:List Sub}:∀(k:Nat) (c:AC),jC P n L c->(∀x∈pL k c,jC P n L x)/\jC P n L (jX k c)
 | 0,c,h=>⟨by simp [pL],by simpa [jX] using h⟩
 | k+1,.seq a b,h=>by
  simp only [jC] at h
  have:=wx k b h.2
  exact ⟨λx hx=>by
   simp only [pL,dl] at hx
   rcases hx with rfl | hx
   ·exact h.1
   ·exact this.1 x hx,by simpa [jX] using this.2⟩
 | k+1,.skip,h | k+1,.ret,h | k+1,.exit _,h | k+1,.cond _ _ _,h | k+1,.block _ _,h | k+1,.reg _ _,h | k+1,.draw _ _,h | k+1,.sub _ _,h | k+1,.loop _,h | k+1,.scope _,h | k+1,.label _,h | k+1,.bad _,h=>by
  exact ⟨by simp [pL],by simpa [jX] using h⟩
theorem IN {α:Type} {E:List Ent} (hE:∀x∈E,gN P x) {L:List Sub} {f:Nat} {fn:Func} {c:Code} {ac:AC} {k:Nat} {o1 oD:Oper} {g:Operand} {gid idD:Nat} {acB:AC} (hf:P.funcs[f]?=some fn)
  (hb:fn.body=some c) (hac:ac.code=c) (hsp:jX k ac=.seq (.reg idD [o1,oD]) acB) (hL:jC P fn.ntmps L ac) (hg1:o1.guard=none) (hgD:oD.guard=none)
  (hoD:oD.op=.defer ⟨.value g,#[],#[]⟩) (hdD:oD.dst=none)
  {EC:List Ent} (hEC:∀x∈EC,gN P x) {LC:List Sub} {fnC:Func} {cC:Code} {acC:AC} {idR:Nat} {oR:Oper} {tr:Nat} (hfC:P.funcs[gid]?=some fnC)
  (hbC:fnC.body=some cC) (hcC:acC.code=cC) (hspC:jX 0 acC=.seq (.reg idR [oR]) (jX 1 acC)) (hoR:oR.op=.call ⟨.builtin .recover,#[],#[]⟩) (hgR:oR.guard=none) (hdR:oR.dst=some tr) (hres:fnC.results=#[])
  (hLC:jC P fnC.ntmps LC acC) (hEn:m4 P gid)
  {args:List V} {H0:List (Nat×Blk)} {nb0 ro rb:Nat} {K:Bool->V->St->Option α} {z:α} (hn:Nat.ble args.length fn.ntmps=true)
  (h:OY P E L fn.ntmps (pL k ac) o1 g gid acB EC LC fnC.ntmps (jX 1 acC) tr fn.results.toList K ⟨sA args 0,H0,nb0,nb0,ro,rb⟩=some z):zU P f args H0 nb0 ro K z:=by
 have hs:=wx k ac hL
 have hLB:jC P fn.ntmps L acB:=by
  have:=hs.2
  rw [hsp] at this
  simp only [jC] at this
  exact this.2
 refine Nh hE hf hb rfl (As:=pL k ac) (o1:=o1) (oD:=oD) (idD:=idD) (acB:=acB) ?_ hs.1 hLB hg1 hgD hoD hdD hEC hfC (idR:=idR) (oR:=oR) (crest:=(jX 1 acC).code) ?_ hoR hgR hdR hres rfl (wx 1 acC hLC).2 hEn hn h
 ·rw [<-hac,<-uw k ac,hsp];rfl
 ·rw [hbC,<-hcC,<-uw 0 acC,hspC];rfl
end Go.Abs
