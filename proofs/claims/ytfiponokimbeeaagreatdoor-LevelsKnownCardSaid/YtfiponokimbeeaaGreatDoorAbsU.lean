
/- Functions that defer a closure: what they come to.
   Conditions: none; generic over the program. -/
import Derived.Test.YtfiponokimbeeaaGreatDoorAbsP
import Derived.Recover
set_option linter.unusedSimpArgs false
set_option linter.unusedVariables false
namespace Go.Abs
variable {P:Program}
def runL {α:Type} (P:Program) (E:List Ent) (L:List Sub) (n:Nat) (k:Ex->St->Option α):List AC->St->Option α
 | [],s=>k .normal s
 | a::l,s=>run P E L n a s λex s=>match ex with
  | .normal=>runL P E L n k l s
  | .exit id=>k (.exit id) s
  | .ret=>k .ret s
  | .pan v=>k (.pan v) s
def xY {α:Type} (P:Program) (E:List Ent) (L:List Sub) (b:Nat) (c:AC) (tr:Nat) (cap:List V) (v:V) (s:St) (k:St->Option α):Option α:=
 match Nat.blt tr b&&(Nat.ble cap.length b&&Nat.ble cap.length tr) with
 | true=>run P E L b c ⟨(tr,some v)::rU cap 0,s.H,s.nb,s.nb,s.ro,s.nb⟩ λex a=>match Nat.beq a.ro s.ro&&Nat.beq a.rb s.nb with
  | true=>match ex with
   | .normal=>k { s with H:=a.H,nb:=a.nb }
   | .ret=>k { s with H:=a.H,nb:=a.nb }
   | .exit _=>none
   | .pan _=>none
  | false=>none
 | false=>none
def QH {α:Type} (P:Program) (E:List Ent) (L:List Sub) (n:Nat) (As:List AC) (o1:Oper) (g:Operand) (gid:Nat) (acB:AC) (EC:List Ent) (d:List Sub) (c:Nat) (a:AC) (tr:Nat)
  (b:List ResultVar) (K:Bool->V->St->Option α) (s:St):Option α:=
 runL P E L n (λex s=>match ex with
  | .normal=>K4 P E n s.nb o1 s (λs=>match opd s.T g with
   | some (.fn f cap)=>match Nat.beq f gid&&Nat.blt f 1000000 with
    | true=>run P E L n acB { s with lo:=s.nb,rb:=s.nb } λex s'=>match Nat.beq s'.ro s.ro&&Nat.beq s'.rb s.nb with
     | true=>match ex with
      | .normal=>xY P EC d c a tr cap .ni { s' with lo:=s.lo,rb:=s.rb } λs=>finK P b K .ret s
      | .ret=>xY P EC d c a tr cap .ni { s' with lo:=s.lo,rb:=s.rb } λs=>finK P b K .ret s
      | .pan v=>xY P EC d c a tr cap v { s' with lo:=s.lo,rb:=s.rb } λs=>finK P b K .ret s
      | .exit _=>none
     | false=>none
    | false=>none
   | _=>none) (λ_ _=>none)
  | .exit id=>finK P b K (.exit id) s
  | .ret=>finK P b K .ret s
  | .pan v=>finK P b K (.pan v) s) As s
def Ea:List AC->Code->Code
 | [],c=>c
 | a::l,c=>.seq a.code (Ea l c)
theorem IE {α:Type} {E:List Ent} (p:∀x∈E,fp P x) {L:List Sub} {n:Nat} {k:Ex->St->Option α} {z:α} {c:Code} {ι0:Inj} {w0:Base} {Q:Exit->Act->World->Prop}
  (o:∀s ι a w,Inv n ι0 w0 ι s a w->k .normal s=some z->c.wp P Q a w)
  (j:∀ex s ι e a w,ex≠.normal->ExR ι ex e->Inv n ι0 w0 ι s a w->k ex s=some z->Q e a w):∀(As:List AC) (s:St) (ι:Inj) (a:Act) (w:World),(∀x∈As,i6 P n L x)->
   Inv n ι0 w0 ι s a w->runL P E L n k As s=some z->(Ea As c).wp P Q a w
 | [],s,ι,a,w,_,m,h=>o s ι a w m h
 | x::l,s,ι,a,w,hs,m,h=>by
  simp only [runL] at h;refine wp_seq (wp_mono (nW p x s _ z (hs x (by simp)) h ι0 w0 ι a w m) ?_);rintro e f w' ⟨ex,s',b,d,g,i⟩;cases ex with
  | normal=>simp only [ExR] at d;subst d;exact IE p o j l s' b f w' (λy hy=>hs y (eO _ hy)) g i
  | exit id=>simp only [ExR] at d;subst d;exact j (.exit id) s' b _ f w' (by simp) rfl g i
  | ret=>simp only [ExR] at d;subst d;exact j .ret s' b _ f w' (by simp) rfl g i
  | pan v=>obtain ⟨y,rfl,hx⟩:=d;exact j (.pan v) s' b _ f w' (by simp) ⟨y,rfl,hx⟩ g i
theorem Inv.inner {n:Nat} {ι0 ι:Inj} {w0:Base} {s:St} {a:Act} {w:World} {D:List Deferred} (C:Inv n ι0 w0 ι s a w) (F:a.defers=D):Inv n ι ⟨w,D⟩ ι { s with lo:=s.nb,rb:=s.nb } a w:=
 ⟨C.size,F,C.tmps,C.mem,λ_ _ h=>.inl h,λ_ q h=>.inl ⟨q,h,rfl⟩,Fr.refl _ _,λb r h=>C.mem.low b r h,C.fz,C.glHere λ_ _ E=>⟨oO E,Jo E⟩⟩
theorem Inv.outer {n n':Nat} {ι0 ι C:Inj} {w0 w1:Base} {s s':St} {a a':Act} {w w':World} (Q:Inv n ι0 w0 ι s a w) (hw:w1.w=w) (F:Inv n' ι w1 C s' a' w') (W:s'.ro=s.ro) (hrb:s'.rb=s.nb):
  (∀b q,ι b=some q->C b=some q)/\(∀b q,ι0 b=some q->C b=some q\/s.rb<=b)/\(∀b q,C b=some (some q)->(∃O,ι0 b=some (some O)/\O.r=q.r)\/w0.w.heap.size<=q.r)/\Fr (roI ι0 s.ro) w0.w w'/\
   (∀b q,C b=some (some q)->q.fz=true->b<s.ro):=by
 subst hw;have G:∀b q,ι b=some q->C b=some q:=by
  intro b q E;rcases F.ext b q E with h | h
  ·exact h
  ·have:=Q.mem.low b q E;omega
 refine ⟨G,λb q E=>(Q.ext b q E).imp (G b q) id,λb q E=>?_,Q.fr.trans (λb q E=>?_) F.fr,λb q E hq=>by have:=F.fz b q E hq;omega⟩
 ·rcases F.new b q E with ⟨O,Y,U⟩ | h
  ·rw [<-U];exact Q.new b O Y
  ·exact .inr (rV Q.fr.size h)
 ·have X:=oO E;have Z:s.ro<=b:=by
   rw [W] at E;unfold roI at E;cases J:Nat.blt b s.ro with
   | true=>simp [J] at E
   | false=>
    rcases aF b s.ro with h | h
    ·rw [show Nat.blt b s.ro=true from cr h] at J;cases J
    ·exact h
  exact (Q.new b q X).imp (λ⟨O,h,U⟩=>⟨O,CJ h Z,U⟩) id
theorem iO9 {α:Type} {E:List Ent} (hE:∀x∈E,fp P x) {L:List Sub} {g:Nat} {fn:Func} {m:AC} {idR:Nat} {oR:Oper} {tr:Nat} {crest:Code} (hf:P.funcs[g]?=some fn)
  (hb:fn.body=some (.seq (.region idR #[oR] false) crest)) (hoR:oR.op=.call ⟨.builtin .recover,#[],#[]⟩) (hgR:oR.guard=none) (hdR:oR.dst=some tr) (Q:fn.results=#[]) (hc:m.code=crest)
  (hL:i6 P fn.ntmps L m) {cap:List V} {v:V} {s:St} {k:St->Option α} {z:α} (h:xY P E L fn.ntmps m tr cap v s k=some z)
  {n:Nat} {ι0 ι:Inj} {w0:Base} {a:Act} {w:World} (i:Inv n ι0 w0 ι s a w) {j:List Value} (o:VRs ι cap j) {x:Value} (hx:VR ι v x) {u A:FrameMode}
  (hu:(u=.returning/\A=.returning/\x=.nilIface)\/∃y,u=.panicking [{ v:=y,recovered:=false }]/\A=.panicking [{ v:=y,recovered:=true }]/\x=y):
  CallsD P g j.toArray u w λe D w'=>D=A/\∃(y:Value) (s':St) (J:Inj),e=.returned y/\k s'=some z/\Inv n ι0 w0 J s' a w'/\s'.T=s.T:=by
 unfold xY at h;split at h
 case h_2=>cases h
 rename_i f;simp only [az] at f;have htr:tr<fn.ntmps:=aE f.1;have hcl:cap.length<=fn.ntmps:=aE f.2.1;have hct:cap.length<=tr:=aE f.2.2;have hlen:j.length=cap.length:=o.length;refine callsD_of_wpS hf hb λd U F=>?_;have W:∀a:Act,(execOp a.eval oR).run P w=.ok .recover w:=by
  intro a;simp [execOp,hoR,resolve,invoke,builtin]
 have p:∀I:List Frame,I={ d with mode:=A }::U->
   crest.wpS P (bodyPostS P fn d U λe D w'=>D=A/\∃(y:Value) (s':St) (J:Inj),e=.returned y/\k s'=some z/\Inv n ι0 w0 J s' a w'/\s'.T=s.T)
    (({ tmps:=j.toArray++Array.replicate (fn.ntmps - j.toArray.size) undef,defers:=[] }:Act).put oR.dst x) I w:=by
  intro I hfs;have hI2:Inv fn.ntmps ι ⟨w,[]⟩ ι ⟨(tr,some v)::rU cap 0,s.H,s.nb,s.nb,s.ro,s.nb⟩ (({ tmps:=j.toArray++Array.replicate (fn.ntmps - j.toArray.size) undef,defers:=[] }:Act).put oR.dst x) w:=by
   refine ⟨by rw [md];simp;omega,by rw [iE],?_,i.mem,λ_ _ h=>.inl h,λ_ q h=>.inl ⟨q,h,rfl⟩,Fr.refl _ _,λb r h=>i.mem.low b r h,i.fz,i.glHere λ_ _ hb=>⟨oO hb,Jo hb⟩⟩;rw [hdR];refine TR.put (λt u Z=>?_) (by simp;omega) (λu hu=>by cases hu;exact hx);rw [rt,ae (jh _)] at Z;simp only [rZ] at Z;cases hl:cap[t]? with
   | none=>simp [hl] at Z
   | some u=>
    simp only [hl,eo,ak] at Z;subst Z;obtain ⟨x,O,M⟩:=o.get hl;have h1':j.toArray[t]?=some x:=by simpa using O
    have hlt:t<j.toArray.size:=by
     rcases aF t j.toArray.size with h' | h'
     ·exact h'
     ·rw [vN h'] at h1';cases h1'
    exact ⟨x,by rw [Qu hlt];exact h1',M⟩
  subst hc hfs;refine wpS_of_wp (sI ?_ (nW hE m _ _ z hL h ι ⟨w,[]⟩ ι _ w hI2));rintro e a' w' ⟨ex,s2,G,O,M,N⟩;split at N
  case h_2=>cases N
  rename_i X;simp only [az,ie] at X;obtain ⟨S,Y⟩:=X;obtain ⟨R,o1,o2,o3,o4⟩:=i.outer rfl M S Y;have B:Inv n ι0 w0 G { s with H:=s2.H,nb:=s2.nb } a w':=⟨i.size,i.defers,i.tmps.mono R,M.mem,o1,o2,o3,i.low,o4,i.gl⟩;have c:(results fn a'.tmps).run P w'=.ok (.tuple #[]) w':=by
   rw [yB,Q];simp [aB]
  cases ex with
  | normal=>simp only [ExR] at O;subst O;exact ⟨M.defers,A,rfl,_,c,rfl,_,_,G,rfl,N,B,rfl⟩
  | ret=>simp only [ExR] at O;subst O;exact ⟨M.defers,A,rfl,_,c,rfl,_,_,G,rfl,N,B,rfl⟩
  | exit id=>cases N
  | pan v=>cases N
 refine wpS_seq (wpS_region ?_);show wpOpsS P #[oR] _ [0] _ _ w;simp only [wpOpsS];have h0:(#[oR]:Array Oper)[0]?=some oR:=rfl;rw [h0];simp only;have hw:∀y,Region.wanted oR y=true:=λy=>by simp [Region.wanted,hgR]
 rw [hw];simp only [aK,W];rcases hu with ⟨l,K,C⟩ | ⟨y,l,K,C⟩
 ·subst C;have:recoverD (d::U)=none:=by simp [recoverD,F,l]
  rw [this];exact p _ (by rw [K,<-l,<-F])
 ·subst C;have:recoverD (d::U)=some (x,{ d with mode:=A }::U):=by simp [recoverD,F,l,K]
  rw [this];exact p _ rfl
theorem NZ {α:Type} {E:List Ent} (hE:∀x∈E,fp P x) {L:List Sub} {f:Nat} {fn:Func} {c:Code} {As:List AC} {o1 oD:Oper} {g:Operand} {gid idD:Nat} {acB:AC} {cB:Code} (hf:P.funcs[f]?=some fn)
  (Q:fn.body=some c) (hcB:acB.code=cB) (hc:Ea As (.seq (.region idD #[o1,oD] false) cB)=c) (hLA:∀x∈As,i6 P fn.ntmps L x) (hLB:i6 P fn.ntmps L acB) (hg1:o1.guard=none) (hgD:oD.guard=none)
  (hoD:oD.op=.defer ⟨.value g,#[],#[]⟩) (hdD:oD.dst=none)
  {EC:List Ent} (hEC:∀x∈EC,fp P x) {LC:List Sub} {n:Func} {F:AC} {idR:Nat} {oR:Oper} {tr:Nat} {crest:Code} (hfC:P.funcs[gid]?=some n)
  (hbC:n.body=some (.seq (.region idR #[oR] false) crest)) (hoR:oR.op=.call ⟨.builtin .recover,#[],#[]⟩) (hgR:oR.guard=none) (hdR:oR.dst=some tr) (O:n.results=#[]) (hcC:F.code=crest)
  (hLC:i6 P n.ntmps LC F) (hEn:jE P gid)
  {args:List V} {H0:List (Nat×Blk)} {nb0 ro rb:Nat} {K:Bool->V->St->Option α} {z:α} (hn:Nat.ble args.length fn.ntmps=true)
  (h:QH P E L fn.ntmps As o1 g gid acB EC LC n.ntmps F tr fn.results.toList K ⟨rU args 0,H0,nb0,nb0,ro,rb⟩=some z):zg P f args H0 nb0 ro K z:=by
 intro ι0 w M hW hfz hgl hx;have hlen:M.size=args.length:=by simpa using hx.length
 have hn:=aE hn;refine calls_of_wp_defers hf Q ?_;rw [<-hc];have hI:Inv fn.ntmps ι0 ⟨w,[]⟩ ι0 ⟨rU args 0,H0,nb0,nb0,ro,rb⟩ { tmps:=M++Array.replicate (fn.ntmps - M.size) undef,defers:=[] } w:=by
  refine ⟨by simp;omega,rfl,λt v hv=>?_,hW,λ_ _ h=>.inl h,λ_ q h=>.inl ⟨q,h,rfl⟩,Fr.refl _ _,λb r h=>hW.low b r h,hfz,hgl⟩;rw [rt,ae (jh _)] at hv;simp only [rZ] at hv;cases hl:args[t]? with
  | none=>simp [hl] at hv
  | some u=>
   simp only [hl,eo,ak] at hv;subst hv;obtain ⟨x,A,i⟩:=hx.get hl;have h1':M[t]?=some x:=by simpa using A
   have hlt:t<M.size:=by
    rcases aF t M.size with h' | h'
    ·exact h'
    ·rw [vN h'] at h1';cases h1'
   exact ⟨x,by rw [Qu hlt];exact h1',i⟩
 have fin:∀{D:List Deferred} (s':St) (j:Inj) (C:Act) (w':World),Inv fn.ntmps ι0 ⟨w,D⟩ j s' C w'->finK P fn.results.toList K .ret s'=some z->
   ∃v,(results fn C.tmps).run P w'=.ok v w'/\∃(pan:Bool) (u:V) (s:St) (ι:Inj),K pan u s=some z/\(∀b q,ι0 b=some q->ι b=some q\/s.rb<=b)/\(∀b q,ι b=some (some q)->(∃N,ι0 b=some (some N)/\N.r=q.r)\/w.heap.size<=q.r)/\
   WR ι s.H s.nb w'/\(∀b q,ι b=some (some q)->q.fz=true->b<s.ro)/\Fr (roI ι0 s.ro) w w'/\RetR ι { val:=u,pan:=pan } (.returned v):=by
  intro D s' j C w' i m;simp only [finK] at m;obtain ⟨v,x,Z,g2,g3⟩:=xU (fn:=fn) (c:=λv=>K false v s') i m;exact ⟨x,g3,false,v,s',j,Z,i.ext,i.new,i.mem,i.fz,i.fr,rfl,g2⟩
 refine IE hE ?_ ?_ As _ ι0 _ w hLA hI h
 ·
  intro s ι a w1 U hk;simp only at hk;refine wp_seq (wp_region_lit (l:=[o1,oD]) ?_);unfold wpList;have hw1:∀y,Region.wanted o1 y=true:=λy=>by simp [Region.wanted,hg1]
  have hwD:∀y,Region.wanted oD y=true:=λy=>by simp [Region.wanted,hgD]
  rw [hw1];simp only [aK];refine .inl (Az hE U (λb Q=>U.fresh b Q) (aP _) hk (λs2 I a2 S p d=>?_) (λv s' j x C w' hk=>by cases hk));split at p
  case h_2=>cases p
  rename_i J cap hgo;split at p
  case h_2=>cases p
  rename_i X;simp only [az,ie] at X;obtain ⟨hff1,Y⟩:=X;subst hff1;obtain ⟨G,hv1,hv2⟩:=OL d.tmps hgo;rw [Em Y] at hv1;unfold wpList;rw [hwD];simp only [aK];refine .inl ?_;unfold Oper.wp;have R:(execOp a2.eval oD).run P S=.ok (.defer { target:=.fn (.func J) G,args:=#[] }) S:=by
   simp only [execOp,hoD,resolve,hv1,Deferred.ofValue,aw,aB,ay];simp
  rw [R,Oper.upon_defer,hdD];simp only [Act.put];unfold wpList;simp only [Exit.then];have B:Inv fn.ntmps ι0 ⟨w,[{ target:=.fn (.func J) G,args:=#[] }]⟩ I s2 { a2 with defers:={ target:=.fn (.func J) G,args:=#[] }::a2.defers } S:=
   ⟨d.size,by rw [d.defers],d.tmps,d.mem,d.ext,d.new,d.fr,d.low,d.fz,d.gl⟩
  subst hcB;refine sI ?_ (nW hE acB _ _ z hLB p I ⟨S,[{ target:=.fn (.func J) G,args:=#[] }]⟩ I _ S (B.inner B.defers));rintro e C w' ⟨ex,s',j,A,i,m⟩;split at m
  case h_2=>cases m
  rename_i T;simp only [az,ie] at T;obtain ⟨o,W⟩:=T;obtain ⟨hext,o1,o2,o3,o4⟩:=B.outer rfl i o W;have hI4:Inv fn.ntmps ι0 ⟨w,[{ target:=.fn (.func J) G,args:=#[] }]⟩ j { s' with lo:=s2.lo,rb:=s2.rb } C w':=
   ⟨i.size,i.defers,i.tmps,i.mem,o1,o2,by show Fr (roI ι0 s'.ro) w w';rw [o];exact o3,d.low,λb q Q hq=>by have:=o4 b q Q hq;simp only;omega,by show GL (roI ι0 s'.ro) w;rw [o];exact B.gl⟩
  have hcv:=VRs.mono hext _ _ hv2;have k:∀(v:V) (x:Value) (u u':FrameMode),VR j v x->u≠.run->(settle u'=.returning)->
    ((u=.returning/\u'=.returning/\x=.nilIface)\/∃y,u=.panicking [{ v:=y,recovered:=false }]/\u'=.panicking [{ v:=y,recovered:=true }]/\x=y)->
    xY P EC LC n.ntmps F tr cap v { s' with lo:=s2.lo,rb:=s2.rb } (λs=>finK P fn.results.toList K .ret s)=some z->
    Leaves P fn C.tmps (λe w'=>∃(pan:Bool) (u:V) (s:St) (ι:Inj),K pan u s=some z/\(∀b q,ι0 b=some q->ι b=some q\/s.rb<=b)/\(∀b q,ι b=some (some q)->(∃N,ι0 b=some (some N)/\N.r=q.r)\/w.heap.size<=q.r)/\
     WR ι s.H s.nb w'/\(∀b q,ι b=some (some q)->q.fz=true->b<s.ro)/\Fr (roI ι0 s.ro) w w'/\RetR ι { val:=u,pan:=pan } e) C.defers u w':=by
   intro v x u u' hvx hur hset hu ha;rw [i.defers];refine leaves_cons hur (f:=J) (args:=G.toList.toArray) ?_ ?_
   ·have:=hEn G w';simpa [invoke] using this
   ·refine (iO9 hEC hfC hbC hoR hgR hdR O hcC hLC ha hI4 hcv hvx hu).mono ?_;rintro e u'' w'' ⟨rfl,y,s3,ι3,rfl,h4,h5,h6⟩;obtain ⟨v,Z,g2⟩:=fin s3 ι3 C w'' h5 h4;simp only [hset];exact ⟨v,Z,g2⟩
  cases ex with
  | normal=>simp only [ExR] at A;subst A;exact k .ni .nilIface .returning .returning (by simp [VR]) (by simp) rfl (.inl ⟨rfl,rfl,rfl⟩) m
  | ret=>simp only [ExR] at A;subst A;exact k .ni .nilIface .returning .returning (by simp [VR]) (by simp) rfl (.inl ⟨rfl,rfl,rfl⟩) m
  | exit id=>cases m
  | pan v=>
   obtain ⟨x,rfl,hx⟩:=A;exact k v x (.panicking [{ v:=x,recovered:=false }]) (.panicking [{ v:=x,recovered:=true }]) hx (by simp) (by simp [settle]) (.inr ⟨x,rfl,rfl,rfl⟩) m
 ·rintro ex s ι e a w1 hne A i m;cases ex with
  | normal=>exact absurd rfl hne
  | exit id=>simp [finK] at m
  | ret=>
   simp only [ExR] at A;subst A;obtain ⟨v,Z,g2⟩:=fin s ι a w1 i m;show Leaves P fn a.tmps _ a.defers .returning w1;rw [i.defers];exact ⟨v,Z,g2⟩
  | pan v=>
   obtain ⟨x,rfl,hx⟩:=A;show Leaves P fn a.tmps _ a.defers (.panicking _) w1;rw [i.defers];exact ⟨true,v,s,ι,m,i.ext,i.new,i.mem,i.fz,i.fr,rfl,x,rfl,hx⟩
def pH:Nat->AC->List AC
 | n+1,.seq a b=>a::pH n b
 | _,_=>[]
def jt:Nat->AC->AC
 | n+1,.seq _ b=>jt n b
 | _,c=>c
theorem tN:∀(n:Nat) (c:AC),Ea (pH n c) (jt n c).code=c.code
 | 0,c=>by simp [pH,jt,Ea]
 | n+1,.seq a b=>by simp [pH,jt,Ea,tN n b,AC.code]
 | n+1,.skip | n+1,.ret | n+1,.exit _ | n+1,.cond _ _ _ | n+1,.block _ _ | n+1,.reg _ _ | n+1,.draw _ _ | n+1,.sub _ _ | n+1,.loop _ | n+1,.scope _ | n+1,.label _ | n+1,.bad _=>by
  simp [pH,jt,Ea]
def Oe:AC->List Oper
 | .seq (.reg _ l) _=>l
 | _=>[]
def getO (l:List Oper) (i:Nat):Oper:=l.getD i default
theorem wG {n:Nat} {L:List Sub}:∀(k:Nat) (c:AC),i6 P n L c->(∀x∈pH k c,i6 P n L x)/\i6 P n L (jt k c)
 | 0,c,h=>⟨by simp [pH],by simpa [jt] using h⟩
 | k+1,.seq a b,h=>by
  simp only [i6] at h;have:=wG k b h.2;exact ⟨λx hx=>by
   simp only [pH,cf] at hx;rcases hx with rfl | hx
   ·exact h.1
   ·exact this.1 x hx,by simpa [jt] using this.2⟩
 | k+1,.skip,h | k+1,.ret,h | k+1,.exit _,h | k+1,.cond _ _ _,h | k+1,.block _ _,h | k+1,.reg _ _,h | k+1,.draw _ _,h | k+1,.sub _ _,h | k+1,.loop _,h | k+1,.scope _,h | k+1,.label _,h | k+1,.bad _,h=>by
  exact ⟨by simp [pH],by simpa [jt] using h⟩
theorem Is {α:Type} {E:List Ent} (I:∀x∈E,fp P x) {L:List Sub} {f:Nat} {fn:Func} {c:Code} {ac:AC} {k:Nat} {o1 oD:Oper} {g:Operand} {gid idD:Nat} {acB:AC} (F:P.funcs[f]?=some fn)
  (H:fn.body=some c) (s:ac.code=c) (i:jt k ac=.seq (.reg idD [o1,oD]) acB) (D:i6 P fn.ntmps L ac) (w:o1.guard=none) (n:oD.guard=none)
  (A:oD.op=.defer ⟨.value g,#[],#[]⟩) (l:oD.dst=none)
  {EC:List Ent} (v:∀x∈EC,fp P x) {C:List Sub} {b:Func} {B:Code} {a:AC} {idR:Nat} {oR:Oper} {tr:Nat} (j:P.funcs[gid]?=some b)
  (t:b.body=some B) (q:a.code=B) (e:jt 0 a=.seq (.reg idR [oR]) (jt 1 a)) (p:oR.op=.call ⟨.builtin .recover,#[],#[]⟩) (o:oR.guard=none) (u:oR.dst=some tr) (d:b.results=#[])
  (y:i6 P b.ntmps C a) (r:jE P gid)
  {args:List V} {H0:List (Nat×Blk)} {nb0 ro rb:Nat} {K:Bool->V->St->Option α} {z:α} (G:Nat.ble args.length fn.ntmps=true)
  (h:QH P E L fn.ntmps (pH k ac) o1 g gid acB EC C b.ntmps (jt 1 a) tr fn.results.toList K ⟨rU args 0,H0,nb0,nb0,ro,rb⟩=some z):zg P f args H0 nb0 ro K z:=by
 have hs:=wG k ac D;have m:i6 P fn.ntmps L acB:=by
  have:=hs.2;rw [i] at this;simp only [i6] at this;exact this.2
 refine NZ I F H rfl (As:=pH k ac) (o1:=o1) (oD:=oD) (idD:=idD) (acB:=acB) ?_ hs.1 m w n A l v j (idR:=idR) (oR:=oR) (crest:=(jt 1 a).code) ?_ p o u d rfl (wG 1 a y).2 r G h
 ·rw [<-s,<-tN k ac,i];rfl
 ·rw [t,<-q,<-tN 0 a,e];rfl
end Go.Abs
