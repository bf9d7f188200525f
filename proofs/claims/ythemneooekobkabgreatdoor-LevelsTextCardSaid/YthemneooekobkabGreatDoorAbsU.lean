
/- Functions that defer a closure: what they come to.
   Conditions: none; generic over the program. -/
import Derived.Test.YthemneooekobkabGreatDoorAbsP
import Derived.Recover
set_option linter.unusedSimpArgs false
set_option linter.unusedVariables false
namespace Go.Abs
variable {P:Program}
def runL {α:Type} (P:Program) (E:List Ent) (L:List Sub) (n:Nat) (k:Ex->St->Option α):List AC->St->Option α
 | [],s=>k .normal s
 | a::l,s=>run P E L n a s λex s=>match ex with
  | .normal=>runL P E L n k l s
  | .exit id=>k (.exit id) s
  | .ret=>k .ret s
  | .pan v=>k (.pan v) s
def Ac {α:Type} (P:Program) (E:List Ent) (L:List Sub) (b:Nat) (c:AC) (tr:Nat) (cap:List V) (v:V) (s:St) (k:St->Option α):Option α:=
 match Nat.blt tr b&&(Nat.ble cap.length b&&Nat.ble cap.length tr) with
 | true=>run P E L b c ⟨(tr,some v)::tL cap 0,s.H,s.nb,s.nb,s.ro,s.nb⟩ λex a=>match Nat.beq a.ro s.ro&&Nat.beq a.rb s.nb with
  | true=>match ex with
   | .normal=>k { s with H:=a.H,nb:=a.nb }
   | .ret=>k { s with H:=a.H,nb:=a.nb }
   | .exit _=>none
   | .pan _=>none
  | false=>none
 | false=>none
def TN {α:Type} (P:Program) (E:List Ent) (L:List Sub) (n:Nat) (As:List AC) (o1:Oper) (g:Operand) (gid:Nat) (acB:AC) (EC:List Ent) (c:List Sub) (d:Nat) (a:AC) (tr:Nat)
  (b:List ResultVar) (K:Bool->V->St->Option α) (s:St):Option α:=
 runL P E L n (λex s=>match ex with
  | .normal=>NZ P E n s.nb o1 s (λs=>match opd s.T g with
   | some (.fn f cap)=>match Nat.beq f gid&&Nat.blt f 1000000 with
    | true=>run P E L n acB { s with lo:=s.nb,rb:=s.nb } λex s'=>match Nat.beq s'.ro s.ro&&Nat.beq s'.rb s.nb with
     | true=>match ex with
      | .normal=>Ac P EC c d a tr cap .ni { s' with lo:=s.lo,rb:=s.rb } λs=>finK P b K .ret s
      | .ret=>Ac P EC c d a tr cap .ni { s' with lo:=s.lo,rb:=s.rb } λs=>finK P b K .ret s
      | .pan v=>Ac P EC c d a tr cap v { s' with lo:=s.lo,rb:=s.rb } λs=>finK P b K .ret s
      | .exit _=>none
     | false=>none
    | false=>none
   | _=>none) (λ_ _=>none)
  | .exit id=>finK P b K (.exit id) s
  | .ret=>finK P b K .ret s
  | .pan v=>finK P b K (.pan v) s) As s
def Gi:List AC->Code->Code
 | [],c=>c
 | a::l,c=>.seq a.code (Gi l c)
theorem JR {α:Type} {E:List Ent} (o:∀x∈E,f9 P x) {L:List Sub} {n:Nat} {k:Ex->St->Option α} {z:α} {c:Code} {ι0:Inj} {w0:Base} {Q:Exit->Act->World->Prop}
  (p:∀s ι a w,Inv n ι0 w0 ι s a w->k .normal s=some z->c.wp P Q a w)
  (j:∀ex s ι e a w,ex≠.normal->ExR ι ex e->Inv n ι0 w0 ι s a w->k ex s=some z->Q e a w):∀(As:List AC) (s:St) (ι:Inj) (a:Act) (w:World),(∀x∈As,jX P n L x)->
   Inv n ι0 w0 ι s a w->runL P E L n k As s=some z->(Gi As c).wp P Q a w
 | [],s,ι,a,w,_,m,h=>p s ι a w m h
 | x::l,s,ι,a,w,hs,m,h=>by
  simp only [runL] at h;refine wp_seq (wp_mono (pw o x s _ z (hs x (by simp)) h ι0 w0 ι a w m) ?_);rintro e i w' ⟨ex,s',b,d,g,f⟩;cases ex with
  | normal=>simp only [ExR] at d;subst d;exact JR o p j l s' b i w' (λy hy=>hs y (fY _ hy)) g f
  | exit id=>simp only [ExR] at d;subst d;exact j (.exit id) s' b _ i w' (by simp) rfl g f
  | ret=>simp only [ExR] at d;subst d;exact j .ret s' b _ i w' (by simp) rfl g f
  | pan v=>obtain ⟨y,rfl,hx⟩:=d;exact j (.pan v) s' b _ i w' (by simp) ⟨y,rfl,hx⟩ g f
theorem Inv.inner {n:Nat} {ι0 ι:Inj} {w0:Base} {s:St} {a:Act} {w:World} {D:List Deferred} (C:Inv n ι0 w0 ι s a w) (F:a.defers=D):Inv n ι ⟨w,D⟩ ι { s with lo:=s.nb,rb:=s.nb } a w:=
 ⟨C.size,F,C.tmps,C.mem,λ_ _ h=>.inl h,λ_ q h=>.inl ⟨q,h,rfl⟩,Fr.refl _ _,λb r h=>C.mem.low b r h,C.fz,C.glHere λ_ _ E=>⟨pT E,Lc E⟩⟩
theorem Inv.outer {n n':Nat} {ι0 ι E:Inj} {w0 w1:Base} {s s':St} {a a':Act} {w w':World} (Q:Inv n ι0 w0 ι s a w) (hw:w1.w=w) (F:Inv n' ι w1 E s' a' w') (U:s'.ro=s.ro) (hrb:s'.rb=s.nb):
  (∀b q,ι b=some q->E b=some q)/\(∀b q,ι0 b=some q->E b=some q\/s.rb<=b)/\(∀b q,E b=some (some q)->(∃O,ι0 b=some (some O)/\O.r=q.r)\/w0.w.heap.size<=q.r)/\Fr (roI ι0 s.ro) w0.w w'/\
   (∀b q,E b=some (some q)->q.fz=true->b<s.ro):=by
 subst hw;have G:∀b q,ι b=some q->E b=some q:=by
  intro b q C;rcases F.ext b q C with h | h
  ·exact h
  ·have:=Q.mem.low b q C;omega
 refine ⟨G,λb q C=>(Q.ext b q C).imp (G b q) id,λb q C=>?_,Q.fr.trans (λb q C=>?_) F.fr,λb q C hq=>by have:=F.fz b q C hq;omega⟩
 ·rcases F.new b q C with ⟨O,Y,W⟩ | h
  ·rw [<-W];exact Q.new b O Y
  ·exact .inr (qX Q.fr.size h)
 ·have X:=pT C;have Z:s.ro<=b:=by
   rw [U] at C;unfold roI at C;cases J:Nat.blt b s.ro with
   | true=>simp [J] at C
   | false=>
    rcases aH b s.ro with h | h
    ·rw [show Nat.blt b s.ro=true from cT h] at J;cases J
    ·exact h
  exact (Q.new b q X).imp (λ⟨O,h,W⟩=>⟨O,CU h Z,W⟩) id
theorem NJ {α:Type} {E:List Ent} (hE:∀x∈E,f9 P x) {L:List Sub} {g:Nat} {fn:Func} {l:AC} {idR:Nat} {oR:Oper} {tr:Nat} {crest:Code} (hf:P.funcs[g]?=some fn)
  (hb:fn.body=some (.seq (.region idR #[oR] false) crest)) (hoR:oR.op=.call ⟨.builtin .recover,#[],#[]⟩) (hgR:oR.guard=none) (hdR:oR.dst=some tr) (Q:fn.results=#[]) (hc:l.code=crest)
  (hL:jX P fn.ntmps L l) {cap:List V} {v:V} {s:St} {k:St->Option α} {z:α} (h:Ac P E L fn.ntmps l tr cap v s k=some z)
  {n:Nat} {ι0 ι:Inj} {w0:Base} {a:Act} {w:World} (j:Inv n ι0 w0 ι s a w) {i:List Value} (B:VRs ι cap i) {x:Value} (hx:VR ι v x) {u o:FrameMode}
  (hu:(u=.returning/\o=.returning/\x=.nilIface)\/∃y,u=.panicking [{ v:=y,recovered:=false }]/\o=.panicking [{ v:=y,recovered:=true }]/\x=y):
  CallsD P g i.toArray u w λe D w'=>D=o/\∃(y:Value) (s':St) (K:Inj),e=.returned y/\k s'=some z/\Inv n ι0 w0 K s' a w'/\s'.T=s.T:=by
 unfold Ac at h;split at h
 case h_2=>cases h
 rename_i f;simp only [aA] at f;have htr:tr<fn.ntmps:=aJ f.1;have hcl:cap.length<=fn.ntmps:=aJ f.2.1;have hct:cap.length<=tr:=aJ f.2.2;have hlen:i.length=cap.length:=B.length;refine callsD_of_wpS hf hb λd W I=>?_;have Z:∀a:Act,(execOp a.eval oR).run P w=.ok .recover w:=by
  intro a;simp [execOp,hoR,resolve,invoke,builtin]
 have A:∀C:List Frame,C={ d with mode:=o }::W->
   crest.wpS P (bodyPostS P fn d W λe D w'=>D=o/\∃(y:Value) (s':St) (K:Inj),e=.returned y/\k s'=some z/\Inv n ι0 w0 K s' a w'/\s'.T=s.T)
    (({ tmps:=i.toArray++Array.replicate (fn.ntmps - i.toArray.size) undef,defers:=[] }:Act).put oR.dst x) C w:=by
  intro C hfs;have hI2:Inv fn.ntmps ι ⟨w,[]⟩ ι ⟨(tr,some v)::tL cap 0,s.H,s.nb,s.nb,s.ro,s.nb⟩ (({ tmps:=i.toArray++Array.replicate (fn.ntmps - i.toArray.size) undef,defers:=[] }:Act).put oR.dst x) w:=by
   refine ⟨by rw [nE];simp;omega,by rw [jJ],?_,j.mem,λ_ _ h=>.inl h,λ_ q h=>.inl ⟨q,h,rfl⟩,Fr.refl _ _,λb r h=>j.mem.low b r h,j.fz,j.glHere λ_ _ hb=>⟨pT hb,Lc hb⟩⟩;rw [hdR];refine TR.put (λt u X=>?_) (by simp;omega) (λu hu=>by cases hu;exact hx);rw [rZ,ae (ft _)] at X;simp only [oM] at X;cases hl:cap[t]? with
   | none=>simp [hl] at X
   | some u=>
    simp only [hl,fb,au] at X;subst X;obtain ⟨x,N,O⟩:=B.get hl;have h1':i.toArray[t]?=some x:=by simpa using N
    have hlt:t<i.toArray.size:=by
     rcases aH t i.toArray.size with h' | h'
     ·exact h'
     ·rw [xM h'] at h1';cases h1'
    exact ⟨x,by rw [Ug hlt];exact h1',O⟩
  subst hc hfs;refine wpS_of_wp (tO ?_ (pw hE l _ _ z hL h ι ⟨w,[]⟩ ι _ w hI2));rintro e a' w' ⟨ex,s2,G,N,O,M⟩;split at M
  case h_2=>cases M
  rename_i Y;simp only [aA,jn] at Y;obtain ⟨U,S⟩:=Y;obtain ⟨R,o1,o2,o3,o4⟩:=j.outer rfl O U S;have p:Inv n ι0 w0 G { s with H:=s2.H,nb:=s2.nb } a w':=⟨j.size,j.defers,j.tmps.mono R,O.mem,o1,o2,o3,j.low,o4,j.gl⟩;have c:(results fn a'.tmps).run P w'=.ok (.tuple #[]) w':=by
   rw [zb,Q];simp [aD]
  cases ex with
  | normal=>simp only [ExR] at N;subst N;exact ⟨O.defers,o,rfl,_,c,rfl,_,_,G,rfl,M,p,rfl⟩
  | ret=>simp only [ExR] at N;subst N;exact ⟨O.defers,o,rfl,_,c,rfl,_,_,G,rfl,M,p,rfl⟩
  | exit id=>cases M
  | pan v=>cases M
 refine wpS_seq (wpS_region ?_);show wpOpsS P #[oR] _ [0] _ _ w;simp only [wpOpsS];have h0:(#[oR]:Array Oper)[0]?=some oR:=rfl;rw [h0];simp only;have hw:∀y,Region.wanted oR y=true:=λy=>by simp [Region.wanted,hgR]
 rw [hw];simp only [aL,Z];rcases hu with ⟨m,F,J⟩ | ⟨y,m,F,J⟩
 ·subst J;have:recoverD (d::W)=none:=by simp [recoverD,I,m]
  rw [this];exact A _ (by rw [F,<-m,<-I])
 ·subst J;have:recoverD (d::W)=some (x,{ d with mode:=o }::W):=by simp [recoverD,I,m,F]
  rw [this];exact A _ rfl
theorem Qc {α:Type} {E:List Ent} (hE:∀x∈E,f9 P x) {L:List Sub} {f:Nat} {fn:Func} {c:Code} {As:List AC} {o1 oD:Oper} {g:Operand} {gid idD:Nat} {acB:AC} {cB:Code} (hf:P.funcs[f]?=some fn)
  (hb:fn.body=some c) (hcB:acB.code=cB) (hc:Gi As (.seq (.region idD #[o1,oD] false) cB)=c) (hLA:∀x∈As,jX P fn.ntmps L x) (hLB:jX P fn.ntmps L acB) (hg1:o1.guard=none) (hgD:oD.guard=none)
  (hoD:oD.op=.defer ⟨.value g,#[],#[]⟩) (hdD:oD.dst=none)
  {EC:List Ent} (hEC:∀x∈EC,f9 P x) {LC:List Sub} {n:Func} {B:AC} {idR:Nat} {oR:Oper} {tr:Nat} {crest:Code} (hfC:P.funcs[gid]?=some n)
  (hbC:n.body=some (.seq (.region idR #[oR] false) crest)) (hoR:oR.op=.call ⟨.builtin .recover,#[],#[]⟩) (hgR:oR.guard=none) (hdR:oR.dst=some tr) (U:n.results=#[]) (hcC:B.code=crest)
  (hLC:jX P n.ntmps LC B) (hEn:k9 P gid)
  {args:List V} {H0:List (Nat×Blk)} {nb0 ro rb:Nat} {K:Bool->V->St->Option α} {z:α} (hn:Nat.ble args.length fn.ntmps=true)
  (h:TN P E L fn.ntmps As o1 g gid acB EC LC n.ntmps B tr fn.results.toList K ⟨tL args 0,H0,nb0,nb0,ro,rb⟩=some z):Ao P f args H0 nb0 ro K z:=by
 intro ι0 w J hW hfz hgl hx;have hlen:J.size=args.length:=by simpa using hx.length
 have hn:=aJ hn;refine calls_of_wp_defers hf hb ?_;rw [<-hc];have hI:Inv fn.ntmps ι0 ⟨w,[]⟩ ι0 ⟨tL args 0,H0,nb0,nb0,ro,rb⟩ { tmps:=J++Array.replicate (fn.ntmps - J.size) undef,defers:=[] } w:=by
  refine ⟨by simp;omega,rfl,λt v hv=>?_,hW,λ_ _ h=>.inl h,λ_ q h=>.inl ⟨q,h,rfl⟩,Fr.refl _ _,λb r h=>hW.low b r h,hfz,hgl⟩;rw [rZ,ae (ft _)] at hv;simp only [oM] at hv;cases hl:args[t]? with
  | none=>simp [hl] at hv
  | some u=>
   simp only [hl,fb,au] at hv;subst hv;obtain ⟨x,p,i⟩:=hx.get hl;have h1':J[t]?=some x:=by simpa using p
   have hlt:t<J.size:=by
    rcases aH t J.size with h' | h'
    ·exact h'
    ·rw [xM h'] at h1';cases h1'
   exact ⟨x,by rw [Ug hlt];exact h1',i⟩
 have fin:∀{D:List Deferred} (s':St) (j:Inj) (F:Act) (w':World),Inv fn.ntmps ι0 ⟨w,D⟩ j s' F w'->finK P fn.results.toList K .ret s'=some z->
   ∃v,(results fn F.tmps).run P w'=.ok v w'/\∃(pan:Bool) (u:V) (s:St) (ι:Inj),K pan u s=some z/\(∀b q,ι0 b=some q->ι b=some q\/s.rb<=b)/\(∀b q,ι b=some (some q)->(∃Z,ι0 b=some (some Z)/\Z.r=q.r)\/w.heap.size<=q.r)/\
   WR ι s.H s.nb w'/\(∀b q,ι b=some (some q)->q.fz=true->b<s.ro)/\Fr (roI ι0 s.ro) w w'/\RetR ι { val:=u,pan:=pan } (.returned v):=by
  intro D s' j F w' i m;simp only [finK] at m;obtain ⟨v,x,R,Y,g3⟩:=zu (fn:=fn) (c:=λv=>K false v s') i m;exact ⟨x,g3,false,v,s',j,R,i.ext,i.new,i.mem,i.fz,i.fr,rfl,Y⟩
 refine JR hE ?_ ?_ As _ ι0 _ w hLA hI h
 ·
  intro s ι a w1 hI1 hk;simp only at hk;refine wp_seq (wp_region_lit (l:=[o1,oD]) ?_);unfold wpList;have hw1:∀y,Region.wanted o1 y=true:=λy=>by simp [Region.wanted,hg1]
  have hwD:∀y,Region.wanted oD y=true:=λy=>by simp [Region.wanted,hgD]
  rw [hw1];simp only [aL];refine .inl (AW hE hI1 (λb hb=>hI1.fresh b hb) (aY _) hk (λS I a2 Q A d=>?_) (λv s' j x F w' hk=>by cases hk));split at A
  case h_2=>cases A
  rename_i M cap hgo;split at A
  case h_2=>cases A
  rename_i hff;simp only [aA,jn] at hff;obtain ⟨O,hff2⟩:=hff;subst O;obtain ⟨G,hv1,hv2⟩:=QR d.tmps hgo;rw [FG hff2] at hv1;unfold wpList;rw [hwD];simp only [aL];refine .inl ?_;unfold Oper.wp;have hrun:(execOp a2.eval oD).run P Q=.ok (.defer { target:=.fn (.func M) G,args:=#[] }) Q:=by
   simp only [execOp,hoD,resolve,hv1,Deferred.ofValue,aw,aD,az];simp
  rw [hrun,Oper.upon_defer,hdD];simp only [Act.put];unfold wpList;simp only [Exit.then];have C:Inv fn.ntmps ι0 ⟨w,[{ target:=.fn (.func M) G,args:=#[] }]⟩ I S { a2 with defers:={ target:=.fn (.func M) G,args:=#[] }::a2.defers } Q:=
   ⟨d.size,by rw [d.defers],d.tmps,d.mem,d.ext,d.new,d.fr,d.low,d.fz,d.gl⟩
  subst hcB;refine tO ?_ (pw hE acB _ _ z hLB A I ⟨Q,[{ target:=.fn (.func M) G,args:=#[] }]⟩ I _ Q (C.inner C.defers));rintro e F w' ⟨ex,s',j,p,i,m⟩;split at m
  case h_2=>cases m
  rename_i T;simp only [aA,jn] at T;obtain ⟨o,W⟩:=T;obtain ⟨N,o1,o2,o3,o4⟩:=C.outer rfl i o W;have hI4:Inv fn.ntmps ι0 ⟨w,[{ target:=.fn (.func M) G,args:=#[] }]⟩ j { s' with lo:=S.lo,rb:=S.rb } F w':=
   ⟨i.size,i.defers,i.tmps,i.mem,o1,o2,by show Fr (roI ι0 s'.ro) w w';rw [o];exact o3,d.low,λb q hb hq=>by have:=o4 b q hb hq;simp only;omega,by show GL (roI ι0 s'.ro) w;rw [o];exact C.gl⟩
  have hcv:=VRs.mono N _ _ hv2;have k:∀(v:V) (x:Value) (u u':FrameMode),VR j v x->u≠.run->(settle u'=.returning)->
    ((u=.returning/\u'=.returning/\x=.nilIface)\/∃y,u=.panicking [{ v:=y,recovered:=false }]/\u'=.panicking [{ v:=y,recovered:=true }]/\x=y)->
    Ac P EC LC n.ntmps B tr cap v { s' with lo:=S.lo,rb:=S.rb } (λs=>finK P fn.results.toList K .ret s)=some z->
    Leaves P fn F.tmps (λe w'=>∃(pan:Bool) (u:V) (s:St) (ι:Inj),K pan u s=some z/\(∀b q,ι0 b=some q->ι b=some q\/s.rb<=b)/\(∀b q,ι b=some (some q)->(∃Z,ι0 b=some (some Z)/\Z.r=q.r)\/w.heap.size<=q.r)/\
     WR ι s.H s.nb w'/\(∀b q,ι b=some (some q)->q.fz=true->b<s.ro)/\Fr (roI ι0 s.ro) w w'/\RetR ι { val:=u,pan:=pan } e) F.defers u w':=by
   intro v x u u' hvx hur X hu ha;rw [i.defers];refine leaves_cons hur (f:=M) (args:=G.toList.toArray) ?_ ?_
   ·have:=hEn G w';simpa [invoke] using this
   ·refine (NJ hEC hfC hbC hoR hgR hdR U hcC hLC ha hI4 hcv hvx hu).mono ?_;rintro e u'' w'' ⟨rfl,y,s3,ι3,rfl,h4,h5,h6⟩;obtain ⟨v,R,Y⟩:=fin s3 ι3 F w'' h5 h4;simp only [X];exact ⟨v,R,Y⟩
  cases ex with
  | normal=>simp only [ExR] at p;subst p;exact k .ni .nilIface .returning .returning (by simp [VR]) (by simp) rfl (.inl ⟨rfl,rfl,rfl⟩) m
  | ret=>simp only [ExR] at p;subst p;exact k .ni .nilIface .returning .returning (by simp [VR]) (by simp) rfl (.inl ⟨rfl,rfl,rfl⟩) m
  | exit id=>cases m
  | pan v=>
   obtain ⟨x,rfl,hx⟩:=p;exact k v x (.panicking [{ v:=x,recovered:=false }]) (.panicking [{ v:=x,recovered:=true }]) hx (by simp) (by simp [settle]) (.inr ⟨x,rfl,rfl,rfl⟩) m
 ·rintro ex s ι e a w1 hne p i m;cases ex with
  | normal=>exact absurd rfl hne
  | exit id=>simp [finK] at m
  | ret=>
   simp only [ExR] at p;subst p;obtain ⟨v,R,Y⟩:=fin s ι a w1 i m;show Leaves P fn a.tmps _ a.defers .returning w1;rw [i.defers];exact ⟨v,R,Y⟩
  | pan v=>
   obtain ⟨x,rfl,hx⟩:=p;show Leaves P fn a.tmps _ a.defers (.panicking _) w1;rw [i.defers];exact ⟨true,v,s,ι,m,i.ext,i.new,i.mem,i.fz,i.fr,rfl,x,rfl,hx⟩
def qD:Nat->AC->List AC
 | n+1,.seq a b=>a::qD n b
 | _,_=>[]
def kH:Nat->AC->AC
 | n+1,.seq _ b=>kH n b
 | _,c=>c
theorem uW:∀(n:Nat) (c:AC),Gi (qD n c) (kH n c).code=c.code
 | 0,c=>by simp [qD,kH,Gi]
 | n+1,.seq a b=>by simp [qD,kH,Gi,uW n b,AC.code]
 | n+1,.skip | n+1,.ret | n+1,.exit _ | n+1,.cond _ _ _ | n+1,.block _ _ | n+1,.reg _ _ | n+1,.draw _ _ | n+1,.sub _ _ | n+1,.loop _ | n+1,.scope _ | n+1,.label _ | n+1,.bad _=>by
  simp [qD,kH,Gi]
def QP:AC->List Oper
 | .seq (.reg _ l) _=>l
 | _=>[]
def getO (l:List Oper) (i:Nat):Oper:=l.getD i default
theorem yC {n:Nat} {L:List Sub}:∀(k:Nat) (c:AC),jX P n L c->(∀x∈qD k c,jX P n L x)/\jX P n L (kH k c)
 | 0,c,h=>⟨by simp [qD],by simpa [kH] using h⟩
 | k+1,.seq a b,h=>by
  simp only [jX] at h;have:=yC k b h.2;exact ⟨λx hx=>by
   simp only [qD,cL] at hx;rcases hx with rfl | hx
   ·exact h.1
   ·exact this.1 x hx,by simpa [kH] using this.2⟩
 | k+1,.skip,h | k+1,.ret,h | k+1,.exit _,h | k+1,.cond _ _ _,h | k+1,.block _ _,h | k+1,.reg _ _,h | k+1,.draw _ _,h | k+1,.sub _ _,h | k+1,.loop _,h | k+1,.scope _,h | k+1,.label _,h | k+1,.bad _,h=>by
  exact ⟨by simp [qD],by simpa [kH] using h⟩
theorem Kt {α:Type} {E:List Ent} (F:∀x∈E,f9 P x) {L:List Sub} {f:Nat} {fn:Func} {c:Code} {ac:AC} {k:Nat} {o1 oD:Oper} {g:Operand} {gid idD:Nat} {acB:AC} (G:P.funcs[f]?=some fn)
  (D:fn.body=some c) (l:ac.code=c) (i:kH k ac=.seq (.reg idD [o1,oD]) acB) (I:jX P fn.ntmps L ac) (p:o1.guard=none) (s:oD.guard=none)
  (v:oD.op=.defer ⟨.value g,#[],#[]⟩) (w:oD.dst=none)
  {EC:List Ent} (y:∀x∈EC,f9 P x) {B:List Sub} {b:Func} {C:Code} {a:AC} {idR:Nat} {oR:Oper} {tr:Nat} (n:P.funcs[gid]?=some b)
  (A:b.body=some C) (m:a.code=C) (e:kH 0 a=.seq (.reg idR [oR]) (kH 1 a)) (j:oR.op=.call ⟨.builtin .recover,#[],#[]⟩) (t:oR.guard=none) (r:oR.dst=some tr) (d:b.results=#[])
  (u:jX P b.ntmps B a) (q:k9 P gid)
  {args:List V} {H0:List (Nat×Blk)} {nb0 ro rb:Nat} {K:Bool->V->St->Option α} {z:α} (H:Nat.ble args.length fn.ntmps=true)
  (h:TN P E L fn.ntmps (qD k ac) o1 g gid acB EC B b.ntmps (kH 1 a) tr fn.results.toList K ⟨tL args 0,H0,nb0,nb0,ro,rb⟩=some z):Ao P f args H0 nb0 ro K z:=by
 have hs:=yC k ac I;have o:jX P fn.ntmps L acB:=by
  have:=hs.2;rw [i] at this;simp only [jX] at this;exact this.2
 refine Qc F G D rfl (As:=qD k ac) (o1:=o1) (oD:=oD) (idD:=idD) (acB:=acB) ?_ hs.1 o p s v w y n (idR:=idR) (oR:=oR) (crest:=(kH 1 a).code) ?_ j t r d rfl (yC 1 a u).2 q H h
 ·rw [<-l,<-uW k ac,i];rfl
 ·rw [A,<-m,<-uW 0 a,e];rfl
end Go.Abs
