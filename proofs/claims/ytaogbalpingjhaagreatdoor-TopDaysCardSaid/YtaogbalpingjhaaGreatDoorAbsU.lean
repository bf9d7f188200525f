
/- Functions that defer a closure: what they come to.
   Conditions: none; generic over the program. -/
import Derived.Test.YtaogbalpingjhaaGreatDoorAbsP
import Derived.Recover
set_option linter.unusedSimpArgs false
set_option linter.unusedVariables false
namespace Go.Abs
variable {P:Program}
def runL {α:Type} (P:Program) (E:List Ent) (L:List Sub) (n:Nat) (k:Ex->St->Option α):List AC->St->Option α
 | [],s=>k .normal s
 | a::l,s=>run P E L n a s λex s=>match ex with
  | .normal=>runL P E L n k l s
  | .exit id=>k (.exit id) s
  | .ret=>k .ret s
  | .pan v=>k (.pan v) s
def s9 {α:Type} (P:Program) (E:List Ent) (L:List Sub) (b:Nat) (c:AC) (tr:Nat) (cap:List V) (v:V) (s:St) (k:St->Option α):Option α:=
 match Nat.blt tr b&&(Nat.ble cap.length b&&Nat.ble cap.length tr) with
 | true=>run P E L b c ⟨(tr,some v)::ng cap 0,s.H,s.nb,s.nb,s.ro,s.nb⟩ λex a=>match Nat.beq a.ro s.ro&&Nat.beq a.rb s.nb with
  | true=>match ex with
   | .normal=>k { s with H:=a.H,nb:=a.nb }
   | .ret=>k { s with H:=a.H,nb:=a.nb }
   | .exit _=>none
   | .pan _=>none
  | false=>none
 | false=>none
def Ht {α:Type} (P:Program) (E:List Ent) (L:List Sub) (n:Nat) (As:List AC) (o1:Oper) (g:Operand) (gid:Nat) (acB:AC) (EC:List Ent) (e:List Sub) (d:Nat) (a:AC) (tr:Nat)
  (b:List ResultVar) (K:Bool->V->St->Option α) (s:St):Option α:=
 runL P E L n (λex s=>match ex with
  | .normal=>A3 P E n s.nb o1 s (λs=>match opd s.T g with
   | some (.fn f cap)=>match Nat.beq f gid&&Nat.blt f 1000000 with
    | true=>run P E L n acB { s with lo:=s.nb,rb:=s.nb } λex c=>match Nat.beq c.ro s.ro&&Nat.beq c.rb s.nb with
     | true=>match ex with
      | .normal=>s9 P EC e d a tr cap .ni { c with lo:=s.lo,rb:=s.rb } λs=>finK P b K .ret s
      | .ret=>s9 P EC e d a tr cap .ni { c with lo:=s.lo,rb:=s.rb } λs=>finK P b K .ret s
      | .pan v=>s9 P EC e d a tr cap v { c with lo:=s.lo,rb:=s.rb } λs=>finK P b K .ret s
      | .exit _=>none
     | false=>none
    | false=>none
   | _=>none) (λ_ _=>none)
  | .exit id=>finK P b K (.exit id) s
  | .ret=>finK P b K .ret s
  | .pan v=>finK P b K (.pan v) s) As s
def wx:List AC->Code->Code
 | [],c=>c
 | a::l,c=>.seq a.code (wx l c)
theorem B5 {α:Type} {E:List Ent} (p:∀x∈E,cD P x) {L:List Sub} {n:Nat} {k:Ex->St->Option α} {z:α} {c:Code} {ι0:Inj} {w0:Base} {Q:Exit->Act->World->Prop}
  (r:∀s ι a w,Inv n ι0 w0 ι s a w->k .normal s=some z->c.wp P Q a w)
  (m:∀ex s ι e a w,ex≠.normal->ExR ι ex e->Inv n ι0 w0 ι s a w->k ex s=some z->Q e a w):∀(As:List AC) (s:St) (ι:Inj) (a:Act) (w:World),(∀x∈As,fF P n L x)->
   Inv n ι0 w0 ι s a w->runL P E L n k As s=some z->(wx As c).wp P Q a w
 | [],s,ι,a,w,_,o,h=>r s ι a w o h
 | x::l,s,ι,a,w,q,o,h=>by
  simp only [runL] at h;refine wp_seq (wp_mono (ko p x s _ z (q x (by simp)) h ι0 w0 ι a w o) ?_);rintro e j w' ⟨ex,g,b,d,i,f⟩;cases ex with
  | normal=>simp only [ExR] at d;subst d;exact B5 p r m l g b j w' (λy t=>q y (iL _ t)) i f
  | exit id=>simp only [ExR] at d;subst d;exact m (.exit id) g b _ j w' (by simp) rfl i f
  | ret=>simp only [ExR] at d;subst d;exact m .ret g b _ j w' (by simp) rfl i f
  | pan v=>obtain ⟨y,rfl,u⟩:=d;exact m (.pan v) g b _ j w' (by simp) ⟨y,rfl,u⟩ i f
theorem Inv.inner {n:Nat} {ι0 ι:Inj} {w0:Base} {s:St} {a:Act} {w:World} {D:List Deferred} (A:Inv n ι0 w0 ι s a w) (E:a.defers=D):Inv n ι ⟨w,D⟩ ι { s with lo:=s.nb,rb:=s.nb } a w:=
 ⟨A.size,E,A.tmps,A.mem,λ_ _ h=>.inl h,λ_ q h=>.inl ⟨q,h,rfl⟩,Fr.refl _ _,λb r h=>A.mem.low b r h,A.fz,A.glHere λ_ _ C=>⟨kN C,Dt C⟩⟩
theorem Inv.outer {n n':Nat} {ι0 ι C:Inj} {w0 Y:Base} {s W:St} {a a':Act} {w w':World} (K:Inv n ι0 w0 ι s a w) (Z:Y.w=w) (E:Inv n' ι Y C W a' w') (U:W.ro=s.ro) (hrb:W.rb=s.nb):
  (∀b q,ι b=some q->C b=some q)/\(∀b q,ι0 b=some q->C b=some q\/s.rb<=b)/\(∀b q,C b=some (some q)->(∃J,ι0 b=some (some J)/\J.r=q.r)\/w0.w.heap.size<=q.r)/\Fr (roI ι0 s.ro) w0.w w'/\
   (∀b q,C b=some (some q)->q.fz=true->b<s.ro):=by
 subst Z;have F:∀b q,ι b=some q->C b=some q:=by
  intro b q A;rcases E.ext b q A with h | h
  ·exact h
  ·have:=K.mem.low b q A;omega
 refine ⟨F,λb q A=>(K.ext b q A).imp (F b q) id,λb q A=>?_,K.fr.trans (λb q A=>?_) E.fr,λb q A hq=>by have:=E.fz b q A hq;omega⟩
 ·rcases E.new b q A with ⟨J,Q,M⟩ | h
  ·rw [<-M];exact K.new b J Q
  ·exact .inr (mT K.fr.size h)
 ·have O:=kN A;have X:s.ro<=b:=by
   rw [U] at A;unfold roI at A;cases G:Nat.blt b s.ro with
   | true=>simp [G] at A
   | false=>
    rcases aA b s.ro with h | h
    ·rw [show Nat.blt b s.ro=true from cZ h] at G;cases G
    ·exact h
  exact (K.new b q O).imp (λ⟨J,h,M⟩=>⟨J,vF h X,M⟩) id
theorem Be {α:Type} {E:List Ent} (hE:∀x∈E,cD P x) {L:List Sub} {g:Nat} {fn:Func} {m:AC} {idR:Nat} {oR:Oper} {tr:Nat} {crest:Code} (hf:P.funcs[g]?=some fn)
  (hb:fn.body=some (.seq (.region idR #[oR] false) crest)) (hoR:oR.op=.call ⟨.builtin .recover,#[],#[]⟩) (hgR:oR.guard=none) (hdR:oR.dst=some tr) (hres:fn.results=#[]) (hc:m.code=crest)
  (hL:fF P fn.ntmps L m) {cap:List V} {v:V} {s:St} {k:St->Option α} {z:α} (h:s9 P E L fn.ntmps m tr cap v s k=some z)
  {n:Nat} {ι0 ι:Inj} {w0:Base} {a:Act} {w:World} (j:Inv n ι0 w0 ι s a w) {i:List Value} (B:VRs ι cap i) {x:Value} (hx:VR ι v x) {u A:FrameMode}
  (hu:(u=.returning/\A=.returning/\x=.nilIface)\/∃y,u=.panicking [{ v:=y,recovered:=false }]/\A=.panicking [{ v:=y,recovered:=true }]/\x=y):
  CallsD P g i.toArray u w λe F w'=>F=A/\∃(y:Value) (J:St) (M:Inj),e=.returned y/\k J=some z/\Inv n ι0 w0 M J a w'/\J.T=s.T:=by
 unfold s9 at h;split at h
 case h_2=>cases h
 rename_i f;simp only [av] at f;have htr:tr<fn.ntmps:=ax f.1;have hcl:cap.length<=fn.ntmps:=ax f.2.1;have hct:cap.length<=tr:=ax f.2.2;have hlen:i.length=cap.length:=B.length;refine callsD_of_wpS hf hb λd X G=>?_;have S:∀a:Act,(execOp a.eval oR).run P w=.ok .recover w:=by
  intro a;simp [execOp,hoR,resolve,invoke,builtin]
 have p:∀C:List Frame,C={ d with mode:=A }::X->
   crest.wpS P (bodyPostS P fn d X λe F w'=>F=A/\∃(y:Value) (J:St) (M:Inj),e=.returned y/\k J=some z/\Inv n ι0 w0 M J a w'/\J.T=s.T)
    (({ tmps:=i.toArray++Array.replicate (fn.ntmps - i.toArray.size) undef,defers:=[] }:Act).put oR.dst x) C w:=by
  intro C hfs;have hI2:Inv fn.ntmps ι ⟨w,[]⟩ ι ⟨(tr,some v)::ng cap 0,s.H,s.nb,s.nb,s.ro,s.nb⟩ (({ tmps:=i.toArray++Array.replicate (fn.ntmps - i.toArray.size) undef,defers:=[] }:Act).put oR.dst x) w:=by
   refine ⟨by rw [iZ];simp;omega,by rw [fc],?_,j.mem,λ_ _ h=>.inl h,λ_ q h=>.inl ⟨q,h,rfl⟩,Fr.refl _ _,λb r h=>j.mem.low b r h,j.fz,j.glHere λ_ _ hb=>⟨kN hb,Dt hb⟩⟩;rw [hdR];refine TR.put (λt u Y=>?_) (by simp;omega) (λu hu=>by cases hu;exact hx);rw [me,ad (mQ _)] at Y;simp only [qN] at Y;cases hl:cap[t]? with
   | none=>simp [hl] at Y
   | some u=>
    simp only [hl,cK,ae] at Y;subst Y;obtain ⟨x,Q,O⟩:=B.get hl;have h1':i.toArray[t]?=some x:=by simpa using Q
    have hlt:t<i.toArray.size:=by
     rcases aA t i.toArray.size with h' | h'
     ·exact h'
     ·rw [rH h'] at h1';cases h1'
    exact ⟨x,by rw [Ik hlt];exact h1',O⟩
  subst hc hfs;refine wpS_of_wp (om ?_ (ko hE m _ _ z hL h ι ⟨w,[]⟩ ι _ w hI2));rintro e a' w' ⟨ex,s2,D,Q,O,N⟩;split at N
  case h_2=>cases N
  rename_i W;simp only [av,eM] at W;obtain ⟨Z,R⟩:=W;obtain ⟨U,o1,o2,o3,o4⟩:=j.outer rfl O Z R;have o:Inv n ι0 w0 D { s with H:=s2.H,nb:=s2.nb } a w':=⟨j.size,j.defers,j.tmps.mono U,O.mem,o1,o2,o3,j.low,o4,j.gl⟩;have c:(results fn a'.tmps).run P w'=.ok (.tuple #[]) w':=by
   rw [sF,hres];simp [au]
  cases ex with
  | normal=>simp only [ExR] at Q;subst Q;exact ⟨O.defers,A,rfl,_,c,rfl,_,_,D,rfl,N,o,rfl⟩
  | ret=>simp only [ExR] at Q;subst Q;exact ⟨O.defers,A,rfl,_,c,rfl,_,_,D,rfl,N,o,rfl⟩
  | exit id=>cases N
  | pan v=>cases N
 refine wpS_seq (wpS_region ?_);show wpOpsS P #[oR] _ [0] _ _ w;simp only [wpOpsS];have h0:(#[oR]:Array Oper)[0]?=some oR:=rfl;rw [h0];simp only;have hw:∀y,Region.wanted oR y=true:=λy=>by simp [Region.wanted,hgR]
 rw [hw];simp only [aY,S];rcases hu with ⟨l,I,K⟩ | ⟨y,l,I,K⟩
 ·subst K;have:recoverD (d::X)=none:=by simp [recoverD,G,l]
  rw [this];exact p _ (by rw [I,<-l,<-G])
 ·subst K;have:recoverD (d::X)=some (x,{ d with mode:=A }::X):=by simp [recoverD,G,l,I]
  rw [this];exact p _ rfl
theorem FH {α:Type} {E:List Ent} (hE:∀x∈E,cD P x) {L:List Sub} {f:Nat} {fn:Func} {c:Code} {As:List AC} {o1 oD:Oper} {g:Operand} {gid idD:Nat} {acB:AC} {cB:Code} (hf:P.funcs[f]?=some fn)
  (Q:fn.body=some c) (hcB:acB.code=cB) (hc:wx As (.seq (.region idD #[o1,oD] false) cB)=c) (hLA:∀x∈As,fF P fn.ntmps L x) (hLB:fF P fn.ntmps L acB) (hg1:o1.guard=none) (hgD:oD.guard=none)
  (hoD:oD.op=.defer ⟨.value g,#[],#[]⟩) (hdD:oD.dst=none)
  {EC:List Ent} (hEC:∀x∈EC,cD P x) {LC:List Sub} {n:Func} {G:AC} {idR:Nat} {oR:Oper} {tr:Nat} {crest:Code} (hfC:P.funcs[gid]?=some n)
  (hbC:n.body=some (.seq (.region idR #[oR] false) crest)) (hoR:oR.op=.call ⟨.builtin .recover,#[],#[]⟩) (hgR:oR.guard=none) (hdR:oR.dst=some tr) (Y:n.results=#[]) (hcC:G.code=crest)
  (hLC:fF P n.ntmps LC G) (hEn:gx P gid)
  {args:List V} {H0:List (Nat×Blk)} {nb0 ro rb:Nat} {K:Bool->V->St->Option α} {z:α} (hn:Nat.ble args.length fn.ntmps=true)
  (h:Ht P E L fn.ntmps As o1 g gid acB EC LC n.ntmps G tr fn.results.toList K ⟨ng args 0,H0,nb0,nb0,ro,rb⟩=some z):tP P f args H0 nb0 ro K z:=by
 intro ι0 w M hW hfz hgl O;have hlen:M.size=args.length:=by simpa using O.length
 have hn:=ax hn;refine calls_of_wp_defers hf Q ?_;rw [<-hc];have hI:Inv fn.ntmps ι0 ⟨w,[]⟩ ι0 ⟨ng args 0,H0,nb0,nb0,ro,rb⟩ { tmps:=M++Array.replicate (fn.ntmps - M.size) undef,defers:=[] } w:=by
  refine ⟨by simp;omega,rfl,λt v hv=>?_,hW,λ_ _ h=>.inl h,λ_ q h=>.inl ⟨q,h,rfl⟩,Fr.refl _ _,λb r h=>hW.low b r h,hfz,hgl⟩;rw [me,ad (mQ _)] at hv;simp only [qN] at hv;cases hl:args[t]? with
  | none=>simp [hl] at hv
  | some u=>
   simp only [hl,cK,ae] at hv;subst hv;obtain ⟨x,A,i⟩:=O.get hl;have h1':M[t]?=some x:=by simpa using A
   have hlt:t<M.size:=by
    rcases aA t M.size with h' | h'
    ·exact h'
    ·rw [rH h'] at h1';cases h1'
   exact ⟨x,by rw [Ik hlt];exact h1',i⟩
 have fin:∀{D:List Deferred} (p:St) (k:Inj) (F:Act) (w':World),Inv fn.ntmps ι0 ⟨w,D⟩ k p F w'->finK P fn.results.toList K .ret p=some z->
   ∃v,(results fn F.tmps).run P w'=.ok v w'/\∃(pan:Bool) (u:V) (s:St) (ι:Inj),K pan u s=some z/\(∀b q,ι0 b=some q->ι b=some q\/s.rb<=b)/\(∀b q,ι b=some (some q)->(∃q',ι0 b=some (some q')/\q'.r=q.r)\/w.heap.size<=q.r)/\
   WR ι s.H s.nb w'/\(∀b q,ι b=some (some q)->q.fz=true->b<s.ro)/\Fr (roI ι0 s.ro) w w'/\RetR ι { val:=u,pan:=pan } (.returned v):=by
  intro D p k F w' i m;simp only [finK] at m;obtain ⟨v,x,X,g2,g3⟩:=sU (fn:=fn) (c:=λv=>K false v p) i m;exact ⟨x,g3,false,v,p,k,X,i.ext,i.new,i.mem,i.fz,i.fr,rfl,g2⟩
 refine B5 hE ?_ ?_ As _ ι0 _ w hLA hI h
 ·
  intro s ι a w1 W hk;simp only at hk;refine wp_seq (wp_region_lit (l:=[o1,oD]) ?_);unfold wpList;have hw1:∀y,Region.wanted o1 y=true:=λy=>by simp [Region.wanted,hg1]
  have hwD:∀y,Region.wanted oD y=true:=λy=>by simp [Region.wanted,hgD]
  rw [hw1];simp only [aY];refine .inl (uh hE W (λb Q=>W.fresh b Q) (aL _) hk (λs2 J a2 U B d=>?_) (λv p k x F w' hk=>by cases hk));split at B
  case h_2=>cases B
  rename_i N cap hgo;split at B
  case h_2=>cases B
  rename_i hff;simp only [av,eM] at hff;obtain ⟨hff1,R⟩:=hff;subst hff1;obtain ⟨I,T,hv2⟩:=GA d.tmps hgo;rw [xa R] at T;unfold wpList;rw [hwD];simp only [aY];refine .inl ?_;unfold Oper.wp;have hrun:(execOp a2.eval oD).run P U=.ok (.defer { target:=.fn (.func N) I,args:=#[] }) U:=by
   simp only [execOp,hoD,resolve,T,Deferred.ofValue,ak,au,aq];simp
  rw [hrun,Oper.upon_defer,hdD];simp only [Act.put];unfold wpList;simp only [Exit.then];have C:Inv fn.ntmps ι0 ⟨w,[{ target:=.fn (.func N) I,args:=#[] }]⟩ J s2 { a2 with defers:={ target:=.fn (.func N) I,args:=#[] }::a2.defers } U:=
   ⟨d.size,by rw [d.defers],d.tmps,d.mem,d.ext,d.new,d.fr,d.low,d.fz,d.gl⟩
  subst hcB;refine om ?_ (ko hE acB _ _ z hLB B J ⟨U,[{ target:=.fn (.func N) I,args:=#[] }]⟩ J _ U (C.inner C.defers));rintro e F w' ⟨ex,p,k,A,i,m⟩;split at m
  case h_2=>cases m
  rename_i hro;simp only [av,eM] at hro;obtain ⟨o,Z⟩:=hro;obtain ⟨S,o1,o2,o3,o4⟩:=C.outer rfl i o Z;have hI4:Inv fn.ntmps ι0 ⟨w,[{ target:=.fn (.func N) I,args:=#[] }]⟩ k { p with lo:=s2.lo,rb:=s2.rb } F w':=
   ⟨i.size,i.defers,i.tmps,i.mem,o1,o2,by show Fr (roI ι0 p.ro) w w';rw [o];exact o3,d.low,λb q Q hq=>by have:=o4 b q Q hq;simp only;omega,by show GL (roI ι0 p.ro) w;rw [o];exact C.gl⟩
  have hcv:=VRs.mono S _ _ hv2;have j:∀(v:V) (x:Value) (u u':FrameMode),VR k v x->u≠.run->(settle u'=.returning)->
    ((u=.returning/\u'=.returning/\x=.nilIface)\/∃y,u=.panicking [{ v:=y,recovered:=false }]/\u'=.panicking [{ v:=y,recovered:=true }]/\x=y)->
    s9 P EC LC n.ntmps G tr cap v { p with lo:=s2.lo,rb:=s2.rb } (λs=>finK P fn.results.toList K .ret s)=some z->
    Leaves P fn F.tmps (λe w'=>∃(pan:Bool) (u:V) (s:St) (ι:Inj),K pan u s=some z/\(∀b q,ι0 b=some q->ι b=some q\/s.rb<=b)/\(∀b q,ι b=some (some q)->(∃q',ι0 b=some (some q')/\q'.r=q.r)\/w.heap.size<=q.r)/\
     WR ι s.H s.nb w'/\(∀b q,ι b=some (some q)->q.fz=true->b<s.ro)/\Fr (roI ι0 s.ro) w w'/\RetR ι { val:=u,pan:=pan } e) F.defers u w':=by
   intro v x u u' hvx hur hset hu ha;rw [i.defers];refine leaves_cons hur (f:=N) (args:=I.toList.toArray) ?_ ?_
   ·have:=hEn I w';simpa [invoke] using this
   ·refine (Be hEC hfC hbC hoR hgR hdR Y hcC hLC ha hI4 hcv hvx hu).mono ?_;rintro e u'' w'' ⟨rfl,y,s3,ι3,rfl,h4,h5,h6⟩;obtain ⟨v,X,g2⟩:=fin s3 ι3 F w'' h5 h4;simp only [hset];exact ⟨v,X,g2⟩
  cases ex with
  | normal=>simp only [ExR] at A;subst A;exact j .ni .nilIface .returning .returning (by simp [VR]) (by simp) rfl (.inl ⟨rfl,rfl,rfl⟩) m
  | ret=>simp only [ExR] at A;subst A;exact j .ni .nilIface .returning .returning (by simp [VR]) (by simp) rfl (.inl ⟨rfl,rfl,rfl⟩) m
  | exit id=>cases m
  | pan v=>
   obtain ⟨x,rfl,O⟩:=A;exact j v x (.panicking [{ v:=x,recovered:=false }]) (.panicking [{ v:=x,recovered:=true }]) O (by simp) (by simp [settle]) (.inr ⟨x,rfl,rfl,rfl⟩) m
 ·rintro ex s ι e a w1 hne A i m;cases ex with
  | normal=>exact absurd rfl hne
  | exit id=>simp [finK] at m
  | ret=>
   simp only [ExR] at A;subst A;obtain ⟨v,X,g2⟩:=fin s ι a w1 i m;show Leaves P fn a.tmps _ a.defers .returning w1;rw [i.defers];exact ⟨v,X,g2⟩
  | pan v=>
   obtain ⟨x,rfl,O⟩:=A;show Leaves P fn a.tmps _ a.defers (.panicking _) w1;rw [i.defers];exact ⟨true,v,s,ι,m,i.ext,i.new,i.mem,i.fz,i.fr,rfl,x,rfl,O⟩
def lg:Nat->AC->List AC
 | n+1,.seq a b=>a::lg n b
 | _,_=>[]
def fQ:Nat->AC->AC
 | n+1,.seq _ b=>fQ n b
 | _,c=>c
theorem oz:∀(n:Nat) (c:AC),wx (lg n c) (fQ n c).code=c.code
 | 0,c=>by simp [lg,fQ,wx]
 | n+1,.seq a b=>by simp [lg,fQ,wx,oz n b,AC.code]
 | n+1,.skip | n+1,.ret | n+1,.exit _ | n+1,.cond _ _ _ | n+1,.block _ _ | n+1,.reg _ _ | n+1,.draw _ _ | n+1,.sub _ _ | n+1,.loop _ | n+1,.scope _ | n+1,.label _ | n+1,.bad _=>by
  simp [lg,fQ,wx]
def GB:AC->List Oper
 | .seq (.reg _ l) _=>l
 | _=>[]
def getO (l:List Oper) (i:Nat):Oper:=l.getD i default
theorem rq {n:Nat} {L:List Sub}:∀(k:Nat) (c:AC),fF P n L c->(∀x∈lg k c,fF P n L x)/\fF P n L (fQ k c)
 | 0,c,h=>⟨by simp [lg],by simpa [fQ] using h⟩
 | k+1,.seq a b,h=>by
  simp only [fF] at h;have:=rq k b h.2;exact ⟨λx d=>by
   simp only [lg,cY] at d;rcases d with rfl | d
   ·exact h.1
   ·exact this.1 x d,by simpa [fQ] using this.2⟩
 | k+1,.skip,h | k+1,.ret,h | k+1,.exit _,h | k+1,.cond _ _ _,h | k+1,.block _ _,h | k+1,.reg _ _,h | k+1,.draw _ _,h | k+1,.sub _ _,h | k+1,.loop _,h | k+1,.scope _,h | k+1,.label _,h | k+1,.bad _,h=>by
  exact ⟨by simp [lg],by simpa [fQ] using h⟩
theorem Bh {α:Type} {E:List Ent} (G:∀x∈E,cD P x) {L:List Sub} {f:Nat} {fn:Func} {c:Code} {ac:AC} {k:Nat} {o1 oD:Oper} {g:Operand} {gid idD:Nat} {acB:AC} (I:P.funcs[f]?=some fn)
  (F:fn.body=some c) (n:ac.code=c) (e:fQ k ac=.seq (.reg idD [o1,oD]) acB) (J:fF P fn.ntmps L ac) (l:o1.guard=none) (j:oD.guard=none)
  (p:oD.op=.defer ⟨.value g,#[],#[]⟩) (m:oD.dst=none)
  {EC:List Ent} (u:∀x∈EC,cD P x) {B:List Sub} {b:Func} {D:Code} {a:AC} {idR:Nat} {oR:Oper} {tr:Nat} (y:P.funcs[gid]?=some b)
  (t:b.body=some D) (r:a.code=D) (d:fQ 0 a=.seq (.reg idR [oR]) (fQ 1 a)) (o:oR.op=.call ⟨.builtin .recover,#[],#[]⟩) (q:oR.guard=none) (v:oR.dst=some tr) (i:b.results=#[])
  (A:fF P b.ntmps B a) (w:gx P gid)
  {args:List V} {H0:List (Nat×Blk)} {nb0 ro rb:Nat} {K:Bool->V->St->Option α} {z:α} (H:Nat.ble args.length fn.ntmps=true)
  (h:Ht P E L fn.ntmps (lg k ac) o1 g gid acB EC B b.ntmps (fQ 1 a) tr fn.results.toList K ⟨ng args 0,H0,nb0,nb0,ro,rb⟩=some z):tP P f args H0 nb0 ro K z:=by
 have C:=rq k ac J;have s:fF P fn.ntmps L acB:=by
  have:=C.2;rw [e] at this;simp only [fF] at this;exact this.2
 refine FH G I F rfl (As:=lg k ac) (o1:=o1) (oD:=oD) (idD:=idD) (acB:=acB) ?_ C.1 s l j p m u y (idR:=idR) (oR:=oR) (crest:=(fQ 1 a).code) ?_ o q v i rfl (rq 1 a A).2 w H h
 ·rw [<-n,<-oz k ac,e];rfl
 ·rw [t,<-r,<-oz 0 a,d];rfl
end Go.Abs
