
/- Functions that defer a closure: what they come to.
   Conditions: none; generic over the program. -/
import Derived.Test.YtfiponokimbeeaaGreatDoorAbsP
import Derived.Recover
set_option linter.unusedSimpArgs false
set_option linter.unusedVariables false
namespace Go.Abs
variable {P:Program}
def runL {α:Type} (P:Program) (E:List Ent) (L:List Sub) (n:Nat) (k:Ex->St->Option α):List AC->St->Option α
 | [],s=>k .normal s
 | a::l,s=>run P E L n a s λex s=>match ex with
  | .normal=>runL P E L n k l s
  | .exit id=>k (.exit id) s
  | .ret=>k .ret s
  | .pan v=>k (.pan v) s
def yg {α:Type} (P:Program) (E:List Ent) (L:List Sub) (c:Nat) (b:AC) (tr:Nat) (cap:List V) (v:V) (s:St) (k:St->Option α):Option α:=
 match Nat.blt tr c&&(Nat.ble cap.length c&&Nat.ble cap.length tr) with
 | true=>run P E L c b ⟨(tr,some v)::qW cap 0,s.H,s.nb,s.nb,s.ro,s.nb⟩ λex a=>match Nat.beq a.ro s.ro&&Nat.beq a.rb s.nb with
  | true=>match ex with
   | .normal=>k { s with H:=a.H,nb:=a.nb }
   | .ret=>k { s with H:=a.H,nb:=a.nb }
   | .exit _=>none
   | .pan _=>none
  | false=>none
 | false=>none
def PZ {α:Type} (P:Program) (E:List Ent) (L:List Sub) (n:Nat) (As:List AC) (o1:Oper) (g:Operand) (gid:Nat) (acB:AC) (EC:List Ent) (d:List Sub) (c:Nat) (a:AC) (tr:Nat)
  (b:List ResultVar) (K:Bool->V->St->Option α) (s:St):Option α:=
 runL P E L n (λex s=>match ex with
  | .normal=>HY P E n s.nb o1 s (λs=>match opd s.T g with
   | some (.fn f cap)=>match Nat.beq f gid&&Nat.blt f 1000000 with
    | true=>run P E L n acB { s with lo:=s.nb,rb:=s.nb } λex s'=>match Nat.beq s'.ro s.ro&&Nat.beq s'.rb s.nb with
     | true=>match ex with
      | .normal=>yg P EC d c a tr cap .ni { s' with lo:=s.lo,rb:=s.rb } λs=>finK P b K .ret s
      | .ret=>yg P EC d c a tr cap .ni { s' with lo:=s.lo,rb:=s.rb } λs=>finK P b K .ret s
      | .pan v=>yg P EC d c a tr cap v { s' with lo:=s.lo,rb:=s.rb } λs=>finK P b K .ret s
      | .exit _=>none
     | false=>none
    | false=>none
   | _=>none) (λ_ _=>none)
  | .exit id=>finK P b K (.exit id) s
  | .ret=>finK P b K .ret s
  | .pan v=>finK P b K (.pan v) s) As s
def DL:List AC->Code->Code
 | [],c=>c
 | a::l,c=>.seq a.code (DL l c)
theorem Ig {α:Type} {E:List Ent} (p:∀x∈E,ep P x) {L:List Sub} {n:Nat} {k:Ex->St->Option α} {z:α} {c:Code} {ι0:Inj} {w0:Base} {Q:Exit->Act->World->Prop}
  (o:∀s ι a w,Inv n ι0 w0 ι s a w->k .normal s=some z->c.wp P Q a w)
  (i:∀ex s ι e a w,ex≠.normal->ExR ι ex e->Inv n ι0 w0 ι s a w->k ex s=some z->Q e a w):∀(As:List AC) (s:St) (ι:Inj) (a:Act) (w:World),(∀x∈As,iN P n L x)->
   Inv n ι0 w0 ι s a w->runL P E L n k As s=some z->(DL As c).wp P Q a w
 | [],s,ι,a,w,_,m,h=>o s ι a w m h
 | x::l,s,ι,a,w,hs,m,h=>by
  simp only [runL] at h;refine wp_seq (wp_mono (nc p x s _ z (hs x (by simp)) h ι0 w0 ι a w m) ?_);rintro e g w' ⟨ex,s',b,d,f,j⟩;cases ex with
  | normal=>simp only [ExR] at d;subst d;exact Ig p o i l s' b g w' (λy hy=>hs y (eS _ hy)) f j
  | exit id=>simp only [ExR] at d;subst d;exact i (.exit id) s' b _ g w' (by simp) rfl f j
  | ret=>simp only [ExR] at d;subst d;exact i .ret s' b _ g w' (by simp) rfl f j
  | pan v=>obtain ⟨y,rfl,hx⟩:=d;exact i (.pan v) s' b _ g w' (by simp) ⟨y,rfl,hx⟩ f j
theorem Inv.inner {n:Nat} {ι0 ι:Inj} {w0:Base} {s:St} {a:Act} {w:World} {D:List Deferred} (C:Inv n ι0 w0 ι s a w) (F:a.defers=D):Inv n ι ⟨w,D⟩ ι { s with lo:=s.nb,rb:=s.nb } a w:=
 ⟨C.size,F,C.tmps,C.mem,λ_ _ h=>.inl h,λ_ q h=>.inl ⟨q,h,rfl⟩,Fr.refl _ _,λb r h=>C.mem.low b r h,C.fz,C.glHere λ_ _ E=>⟨nI E,KZ E⟩⟩
theorem Inv.outer {n n':Nat} {ι0 ι E:Inj} {w0 w1:Base} {s s':St} {a a':Act} {w w':World} (O:Inv n ι0 w0 ι s a w) (hw:w1.w=w) (F:Inv n' ι w1 E s' a' w') (X:s'.ro=s.ro) (hrb:s'.rb=s.nb):
  (∀b q,ι b=some q->E b=some q)/\(∀b q,ι0 b=some q->E b=some q\/s.rb<=b)/\(∀b q,E b=some (some q)->(∃Q,ι0 b=some (some Q)/\Q.r=q.r)\/w0.w.heap.size<=q.r)/\Fr (roI ι0 s.ro) w0.w w'/\
   (∀b q,E b=some (some q)->q.fz=true->b<s.ro):=by
 subst hw;have G:∀b q,ι b=some q->E b=some q:=by
  intro b q C;rcases F.ext b q C with h | h
  ·exact h
  ·have:=O.mem.low b q C;omega
 refine ⟨G,λb q C=>(O.ext b q C).imp (G b q) id,λb q C=>?_,O.fr.trans (λb q C=>?_) F.fr,λb q C hq=>by have:=F.fz b q C hq;omega⟩
 ·rcases F.new b q C with ⟨Q,U,W⟩ | h
  ·rw [<-W];exact O.new b Q U
  ·exact .inr (qO O.fr.size h)
 ·have Y:=nI C;have Z:s.ro<=b:=by
   rw [X] at C;unfold roI at C;cases J:Nat.blt b s.ro with
   | true=>simp [J] at C
   | false=>
    rcases aF b s.ro with h | h
    ·rw [show Nat.blt b s.ro=true from cG h] at J;cases J
    ·exact h
  exact (O.new b q Y).imp (λ⟨Q,h,W⟩=>⟨Q,AK h Z,W⟩) id
theorem KP {α:Type} {E:List Ent} (hE:∀x∈E,ep P x) {L:List Sub} {g:Nat} {fn:Func} {l:AC} {idR:Nat} {oR:Oper} {tr:Nat} {crest:Code} (hf:P.funcs[g]?=some fn)
  (hb:fn.body=some (.seq (.region idR #[oR] false) crest)) (hoR:oR.op=.call ⟨.builtin .recover,#[],#[]⟩) (hgR:oR.guard=none) (hdR:oR.dst=some tr) (U:fn.results=#[]) (hc:l.code=crest)
  (hL:iN P fn.ntmps L l) {cap:List V} {v:V} {s:St} {k:St->Option α} {z:α} (h:yg P E L fn.ntmps l tr cap v s k=some z)
  {n:Nat} {ι0 ι:Inj} {w0:Base} {a:Act} {w:World} (i:Inv n ι0 w0 ι s a w) {j:List Value} (p:VRs ι cap j) {x:Value} (hx:VR ι v x) {u o:FrameMode}
  (hu:(u=.returning/\o=.returning/\x=.nilIface)\/∃y,u=.panicking [{ v:=y,recovered:=false }]/\o=.panicking [{ v:=y,recovered:=true }]/\x=y):
  CallsD P g j.toArray u w λe J w'=>J=o/\∃(y:Value) (s':St) (F:Inj),e=.returned y/\k s'=some z/\Inv n ι0 w0 F s' a w'/\s'.T=s.T:=by
 unfold yg at h;split at h
 case h_2=>cases h
 rename_i f;simp only [aB] at f;have htr:tr<fn.ntmps:=aG f.1;have hcl:cap.length<=fn.ntmps:=aG f.2.1;have hct:cap.length<=tr:=aG f.2.2;have hlen:j.length=cap.length:=p.length;refine callsD_of_wpS hf hb λd X G=>?_;have S:∀a:Act,(execOp a.eval oR).run P w=.ok .recover w:=by
  intro a;simp [execOp,hoR,resolve,invoke,builtin]
 have A:∀K:List Frame,K={ d with mode:=o }::X->
   crest.wpS P (bodyPostS P fn d X λe J w'=>J=o/\∃(y:Value) (s':St) (F:Inj),e=.returned y/\k s'=some z/\Inv n ι0 w0 F s' a w'/\s'.T=s.T)
    (({ tmps:=j.toArray++Array.replicate (fn.ntmps - j.toArray.size) undef,defers:=[] }:Act).put oR.dst x) K w:=by
  intro K hfs;have hI2:Inv fn.ntmps ι ⟨w,[]⟩ ι ⟨(tr,some v)::qW cap 0,s.H,s.nb,s.nb,s.ro,s.nb⟩ (({ tmps:=j.toArray++Array.replicate (fn.ntmps - j.toArray.size) undef,defers:=[] }:Act).put oR.dst x) w:=by
   refine ⟨by rw [lA];simp;omega,by rw [ip],?_,i.mem,λ_ _ h=>.inl h,λ_ q h=>.inl ⟨q,h,rfl⟩,Fr.refl _ _,λb r h=>i.mem.low b r h,i.fz,i.glHere λ_ _ hb=>⟨nI hb,KZ hb⟩⟩;rw [hdR];refine TR.put (λt u Y=>?_) (by simp;omega) (λu hu=>by cases hu;exact hx);rw [pI,ae (je _)] at Y;simp only [qF] at Y;cases hl:cap[t]? with
   | none=>simp [hl] at Y
   | some u=>
    simp only [hl,dU,ak] at Y;subst Y;obtain ⟨x,O,N⟩:=p.get hl;have h1':j.toArray[t]?=some x:=by simpa using O
    have hlt:t<j.toArray.size:=by
     rcases aF t j.toArray.size with h' | h'
     ·exact h'
     ·rw [vZ h'] at h1';cases h1'
    exact ⟨x,by rw [P5 hlt];exact h1',N⟩
  subst hc hfs;refine wpS_of_wp (rr ?_ (nc hE l _ _ z hL h ι ⟨w,[]⟩ ι _ w hI2));rintro e a' w' ⟨ex,s2,D,O,N,M⟩;split at M
  case h_2=>cases M
  rename_i Q;simp only [aB,ig] at Q;obtain ⟨W,Z⟩:=Q;obtain ⟨R,o1,o2,o3,o4⟩:=i.outer rfl N W Z;have B:Inv n ι0 w0 D { s with H:=s2.H,nb:=s2.nb } a w':=⟨i.size,i.defers,i.tmps.mono R,N.mem,o1,o2,o3,i.low,o4,i.gl⟩;have c:(results fn a'.tmps).run P w'=.ok (.tuple #[]) w':=by
   rw [xa,U];simp [aD]
  cases ex with
  | normal=>simp only [ExR] at O;subst O;exact ⟨N.defers,o,rfl,_,c,rfl,_,_,D,rfl,M,B,rfl⟩
  | ret=>simp only [ExR] at O;subst O;exact ⟨N.defers,o,rfl,_,c,rfl,_,_,D,rfl,M,B,rfl⟩
  | exit id=>cases M
  | pan v=>cases M
 refine wpS_seq (wpS_region ?_);show wpOpsS P #[oR] _ [0] _ _ w;simp only [wpOpsS];have h0:(#[oR]:Array Oper)[0]?=some oR:=rfl;rw [h0];simp only;have hw:∀y,Region.wanted oR y=true:=λy=>by simp [Region.wanted,hgR]
 rw [hw];simp only [aI,S];rcases hu with ⟨m,I,C⟩ | ⟨y,m,I,C⟩
 ·subst C;have:recoverD (d::X)=none:=by simp [recoverD,G,m]
  rw [this];exact A _ (by rw [I,<-m,<-G])
 ·subst C;have:recoverD (d::X)=some (x,{ d with mode:=o }::X):=by simp [recoverD,G,m,I]
  rw [this];exact A _ rfl
theorem LF {α:Type} {E:List Ent} (hE:∀x∈E,ep P x) {L:List Sub} {f:Nat} {fn:Func} {c:Code} {As:List AC} {o1 oD:Oper} {g:Operand} {gid idD:Nat} {acB:AC} {cB:Code} (hf:P.funcs[f]?=some fn)
  (hb:fn.body=some c) (hcB:acB.code=cB) (hc:DL As (.seq (.region idD #[o1,oD] false) cB)=c) (hLA:∀x∈As,iN P fn.ntmps L x) (hLB:iN P fn.ntmps L acB) (hg1:o1.guard=none) (hgD:oD.guard=none)
  (hoD:oD.op=.defer ⟨.value g,#[],#[]⟩) (hdD:oD.dst=none)
  {EC:List Ent} (hEC:∀x∈EC,ep P x) {LC:List Sub} {m:Func} {C:AC} {idR:Nat} {oR:Oper} {tr:Nat} {crest:Code} (hfC:P.funcs[gid]?=some m)
  (hbC:m.body=some (.seq (.region idR #[oR] false) crest)) (hoR:oR.op=.call ⟨.builtin .recover,#[],#[]⟩) (hgR:oR.guard=none) (hdR:oR.dst=some tr) (R:m.results=#[]) (hcC:C.code=crest)
  (hLC:iN P m.ntmps LC C) (hEn:jA P gid)
  {args:List V} {H0:List (Nat×Blk)} {nb0 ro rb:Nat} {K:Bool->V->St->Option α} {z:α} (hn:Nat.ble args.length fn.ntmps=true)
  (h:PZ P E L fn.ntmps As o1 g gid acB EC LC m.ntmps C tr fn.results.toList K ⟨qW args 0,H0,nb0,nb0,ro,rb⟩=some z):zA P f args H0 nb0 ro K z:=by
 intro ι0 w M hW hfz hgl hx;have hlen:M.size=args.length:=by simpa using hx.length
 have hn:=aG hn;refine calls_of_wp_defers hf hb ?_;rw [<-hc];have hI:Inv fn.ntmps ι0 ⟨w,[]⟩ ι0 ⟨qW args 0,H0,nb0,nb0,ro,rb⟩ { tmps:=M++Array.replicate (fn.ntmps - M.size) undef,defers:=[] } w:=by
  refine ⟨by simp;omega,rfl,λt v hv=>?_,hW,λ_ _ h=>.inl h,λ_ q h=>.inl ⟨q,h,rfl⟩,Fr.refl _ _,λb r h=>hW.low b r h,hfz,hgl⟩;rw [pI,ae (je _)] at hv;simp only [qF] at hv;cases hl:args[t]? with
  | none=>simp [hl] at hv
  | some u=>
   simp only [hl,dU,ak] at hv;subst hv;obtain ⟨x,o,i⟩:=hx.get hl;have h1':M[t]?=some x:=by simpa using o
   have hlt:t<M.size:=by
    rcases aF t M.size with h' | h'
    ·exact h'
    ·rw [vZ h'] at h1';cases h1'
   exact ⟨x,by rw [P5 hlt];exact h1',i⟩
 have O:∀{D:List Deferred} (s':St) (j:Inj) (B:Act) (w':World),Inv fn.ntmps ι0 ⟨w,D⟩ j s' B w'->finK P fn.results.toList K .ret s'=some z->
   ∃v,(results fn B.tmps).run P w'=.ok v w'/\∃(pan:Bool) (u:V) (s:St) (ι:Inj),K pan u s=some z/\(∀b q,ι0 b=some q->ι b=some q\/s.rb<=b)/\(∀b q,ι b=some (some q)->(∃q',ι0 b=some (some q')/\q'.r=q.r)\/w.heap.size<=q.r)/\
   WR ι s.H s.nb w'/\(∀b q,ι b=some (some q)->q.fz=true->b<s.ro)/\Fr (roI ι0 s.ro) w w'/\RetR ι { val:=u,pan:=pan } (.returned v):=by
  intro D s' j B w' i n;simp only [finK] at n;obtain ⟨v,x,g1,X,g3⟩:=xn (fn:=fn) (c:=λv=>K false v s') i n;exact ⟨x,g3,false,v,s',j,g1,i.ext,i.new,i.mem,i.fz,i.fr,rfl,X⟩
 refine Ig hE ?_ ?_ As _ ι0 _ w hLA hI h
 ·
  intro s ι a w1 S hk;simp only at hk;refine wp_seq (wp_region_lit (l:=[o1,oD]) ?_);unfold wpList;have hw1:∀y,Region.wanted o1 y=true:=λy=>by simp [Region.wanted,hg1]
  have hwD:∀y,Region.wanted oD y=true:=λy=>by simp [Region.wanted,hgD]
  rw [hw1];simp only [aI];refine .inl (yo hE S (λb hb=>S.fresh b hb) (aQ _) hk (λs2 I a2 Z A d=>?_) (λv s' j x B w' hk=>by cases hk));split at A
  case h_2=>cases A
  rename_i J cap hgo;split at A
  case h_2=>cases A
  rename_i Q;simp only [aB,ig] at Q;obtain ⟨T,U⟩:=Q;subst T;obtain ⟨G,Y,hv2⟩:=N8 d.tmps hgo;rw [CQ U] at Y;unfold wpList;rw [hwD];simp only [aI];refine .inl ?_;unfold Oper.wp;have hrun:(execOp a2.eval oD).run P Z=.ok (.defer { target:=.fn (.func J) G,args:=#[] }) Z:=by
   simp only [execOp,hoD,resolve,Y,Deferred.ofValue,aw,aD,az];simp
  rw [hrun,Oper.upon_defer,hdD];simp only [Act.put];unfold wpList;simp only [Exit.then];have F:Inv fn.ntmps ι0 ⟨w,[{ target:=.fn (.func J) G,args:=#[] }]⟩ I s2 { a2 with defers:={ target:=.fn (.func J) G,args:=#[] }::a2.defers } Z:=
   ⟨d.size,by rw [d.defers],d.tmps,d.mem,d.ext,d.new,d.fr,d.low,d.fz,d.gl⟩
  subst hcB;refine rr ?_ (nc hE acB _ _ z hLB A I ⟨Z,[{ target:=.fn (.func J) G,args:=#[] }]⟩ I _ Z (F.inner F.defers));rintro e B w' ⟨ex,s',j,o,i,n⟩;split at n
  case h_2=>cases n
  rename_i hro;simp only [aB,ig] at hro;obtain ⟨p,W⟩:=hro;obtain ⟨N,o1,o2,o3,o4⟩:=F.outer rfl i p W;have hI4:Inv fn.ntmps ι0 ⟨w,[{ target:=.fn (.func J) G,args:=#[] }]⟩ j { s' with lo:=s2.lo,rb:=s2.rb } B w':=
   ⟨i.size,i.defers,i.tmps,i.mem,o1,o2,by show Fr (roI ι0 s'.ro) w w';rw [p];exact o3,d.low,λb q hb hq=>by have:=o4 b q hb hq;simp only;omega,by show GL (roI ι0 s'.ro) w;rw [p];exact F.gl⟩
  have hcv:=VRs.mono N _ _ hv2;have k:∀(v:V) (x:Value) (u u':FrameMode),VR j v x->u≠.run->(settle u'=.returning)->
    ((u=.returning/\u'=.returning/\x=.nilIface)\/∃y,u=.panicking [{ v:=y,recovered:=false }]/\u'=.panicking [{ v:=y,recovered:=true }]/\x=y)->
    yg P EC LC m.ntmps C tr cap v { s' with lo:=s2.lo,rb:=s2.rb } (λs=>finK P fn.results.toList K .ret s)=some z->
    Leaves P fn B.tmps (λe w'=>∃(pan:Bool) (u:V) (s:St) (ι:Inj),K pan u s=some z/\(∀b q,ι0 b=some q->ι b=some q\/s.rb<=b)/\(∀b q,ι b=some (some q)->(∃q',ι0 b=some (some q')/\q'.r=q.r)\/w.heap.size<=q.r)/\
     WR ι s.H s.nb w'/\(∀b q,ι b=some (some q)->q.fz=true->b<s.ro)/\Fr (roI ι0 s.ro) w w'/\RetR ι { val:=u,pan:=pan } e) B.defers u w':=by
   intro v x u u' hvx hur hset hu ha;rw [i.defers];refine leaves_cons hur (f:=J) (args:=G.toList.toArray) ?_ ?_
   ·have:=hEn G w';simpa [invoke] using this
   ·refine (KP hEC hfC hbC hoR hgR hdR R hcC hLC ha hI4 hcv hvx hu).mono ?_;rintro e u'' w'' ⟨rfl,y,s3,ι3,rfl,h4,h5,h6⟩;obtain ⟨v,g1,X⟩:=O s3 ι3 B w'' h5 h4;simp only [hset];exact ⟨v,g1,X⟩
  cases ex with
  | normal=>simp only [ExR] at o;subst o;exact k .ni .nilIface .returning .returning (by simp [VR]) (by simp) rfl (.inl ⟨rfl,rfl,rfl⟩) n
  | ret=>simp only [ExR] at o;subst o;exact k .ni .nilIface .returning .returning (by simp [VR]) (by simp) rfl (.inl ⟨rfl,rfl,rfl⟩) n
  | exit id=>cases n
  | pan v=>
   obtain ⟨x,rfl,hx⟩:=o;exact k v x (.panicking [{ v:=x,recovered:=false }]) (.panicking [{ v:=x,recovered:=true }]) hx (by simp) (by simp [settle]) (.inr ⟨x,rfl,rfl,rfl⟩) n
 ·rintro ex s ι e a w1 hne o i n;cases ex with
  | normal=>exact absurd rfl hne
  | exit id=>simp [finK] at n
  | ret=>
   simp only [ExR] at o;subst o;obtain ⟨v,g1,X⟩:=O s ι a w1 i n;show Leaves P fn a.tmps _ a.defers .returning w1;rw [i.defers];exact ⟨v,g1,X⟩
  | pan v=>
   obtain ⟨x,rfl,hx⟩:=o;show Leaves P fn a.tmps _ a.defers (.panicking _) w1;rw [i.defers];exact ⟨true,v,s,ι,n,i.ext,i.new,i.mem,i.fz,i.fr,rfl,x,rfl,hx⟩
def ou:Nat->AC->List AC
 | n+1,.seq a b=>a::ou n b
 | _,_=>[]
def jh:Nat->AC->AC
 | n+1,.seq _ b=>jh n b
 | _,c=>c
theorem sN:∀(n:Nat) (c:AC),DL (ou n c) (jh n c).code=c.code
 | 0,c=>by simp [ou,jh,DL]
 | n+1,.seq a b=>by simp [ou,jh,DL,sN n b,AC.code]
 | n+1,.skip | n+1,.ret | n+1,.exit _ | n+1,.cond _ _ _ | n+1,.block _ _ | n+1,.reg _ _ | n+1,.draw _ _ | n+1,.sub _ _ | n+1,.loop _ | n+1,.scope _ | n+1,.label _ | n+1,.bad _=>by
  simp [ou,jh,DL]
def NV:AC->List Oper
 | .seq (.reg _ l) _=>l
 | _=>[]
def getO (l:List Oper) (i:Nat):Oper:=l.getD i default
theorem u0 {n:Nat} {L:List Sub}:∀(k:Nat) (c:AC),iN P n L c->(∀x∈ou k c,iN P n L x)/\iN P n L (jh k c)
 | 0,c,h=>⟨by simp [ou],by simpa [jh] using h⟩
 | k+1,.seq a b,h=>by
  simp only [iN] at h;have:=u0 k b h.2;exact ⟨λx hx=>by
   simp only [ou,cf] at hx;rcases hx with rfl | hx
   ·exact h.1
   ·exact this.1 x hx,by simpa [jh] using this.2⟩
 | k+1,.skip,h | k+1,.ret,h | k+1,.exit _,h | k+1,.cond _ _ _,h | k+1,.block _ _,h | k+1,.reg _ _,h | k+1,.draw _ _,h | k+1,.sub _ _,h | k+1,.loop _,h | k+1,.scope _,h | k+1,.label _,h | k+1,.bad _,h=>by
  exact ⟨by simp [ou],by simpa [jh] using h⟩
theorem KX {α:Type} {E:List Ent} (D:∀x∈E,ep P x) {L:List Sub} {f:Nat} {fn:Func} {c:Code} {ac:AC} {k:Nat} {o1 oD:Oper} {g:Operand} {gid idD:Nat} {acB:AC} (F:P.funcs[f]?=some fn)
  (G:fn.body=some c) (u:ac.code=c) (e:jh k ac=.seq (.reg idD [o1,oD]) acB) (H:iN P fn.ntmps L ac) (s:o1.guard=none) (m:oD.guard=none)
  (q:oD.op=.defer ⟨.value g,#[],#[]⟩) (t:oD.dst=none)
  {EC:List Ent} (p:∀x∈EC,ep P x) {B:List Sub} {b:Func} {C:Code} {a:AC} {idR:Nat} {oR:Oper} {tr:Nat} (w:P.funcs[gid]?=some b)
  (j:b.body=some C) (y:a.code=C) (i:jh 0 a=.seq (.reg idR [oR]) (jh 1 a)) (v:oR.op=.call ⟨.builtin .recover,#[],#[]⟩) (r:oR.guard=none) (n:oR.dst=some tr) (d:b.results=#[])
  (l:iN P b.ntmps B a) (o:jA P gid)
  {args:List V} {H0:List (Nat×Blk)} {nb0 ro rb:Nat} {K:Bool->V->St->Option α} {z:α} (I:Nat.ble args.length fn.ntmps=true)
  (h:PZ P E L fn.ntmps (ou k ac) o1 g gid acB EC B b.ntmps (jh 1 a) tr fn.results.toList K ⟨qW args 0,H0,nb0,nb0,ro,rb⟩=some z):zA P f args H0 nb0 ro K z:=by
 have hs:=u0 k ac H;have A:iN P fn.ntmps L acB:=by
  have:=hs.2;rw [e] at this;simp only [iN] at this;exact this.2
 refine LF D F G rfl (As:=ou k ac) (o1:=o1) (oD:=oD) (idD:=idD) (acB:=acB) ?_ hs.1 A s m q t p w (idR:=idR) (oR:=oR) (crest:=(jh 1 a).code) ?_ v r n d rfl (u0 1 a l).2 o I h
 ·rw [<-u,<-sN k ac,e];rfl
 ·rw [j,<-y,<-sN 0 a,i];rfl
end Go.Abs
