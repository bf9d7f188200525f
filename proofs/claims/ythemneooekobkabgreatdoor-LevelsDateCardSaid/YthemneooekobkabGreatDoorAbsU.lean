
/- Functions that defer a closure: what they come to.
   Conditions: none; generic over the program. -/
import Derived.Test.YthemneooekobkabGreatDoorAbsP
import Derived.Recover
set_option linter.unusedSimpArgs false
set_option linter.unusedVariables false
namespace Go.Abs
variable {P:Program}
def runL {α:Type} (P:Program) (E:List Ent) (L:List Sub) (n:Nat) (k:Ex->St->Option α):List AC->St->Option α
 | [],s=>k .normal s
 | a::l,s=>run P E L n a s λex s=>match ex with
  | .normal=>runL P E L n k l s
  | .exit id=>k (.exit id) s
  | .ret=>k .ret s
  | .pan v=>k (.pan v) s
def zt {α:Type} (P:Program) (E:List Ent) (L:List Sub) (b:Nat) (c:AC) (tr:Nat) (cap:List V) (v:V) (s:St) (k:St->Option α):Option α:=
 match Nat.blt tr b&&(Nat.ble cap.length b&&Nat.ble cap.length tr) with
 | true=>run P E L b c ⟨(tr,some v)::tK cap 0,s.H,s.nb,s.nb,s.ro,s.nb⟩ λex a=>match Nat.beq a.ro s.ro&&Nat.beq a.rb s.nb with
  | true=>match ex with
   | .normal=>k { s with H:=a.H,nb:=a.nb }
   | .ret=>k { s with H:=a.H,nb:=a.nb }
   | .exit _=>none
   | .pan _=>none
  | false=>none
 | false=>none
def UQ {α:Type} (P:Program) (E:List Ent) (L:List Sub) (n:Nat) (As:List AC) (o1:Oper) (g:Operand) (gid:Nat) (acB:AC) (EC:List Ent) (c:List Sub) (d:Nat) (a:AC) (tr:Nat)
  (b:List ResultVar) (K:Bool->V->St->Option α) (s:St):Option α:=
 runL P E L n (λex s=>match ex with
  | .normal=>MQ P E n s.nb o1 s (λs=>match opd s.T g with
   | some (.fn f cap)=>match Nat.beq f gid&&Nat.blt f 1000000 with
    | true=>run P E L n acB { s with lo:=s.nb,rb:=s.nb } λex s'=>match Nat.beq s'.ro s.ro&&Nat.beq s'.rb s.nb with
     | true=>match ex with
      | .normal=>zt P EC c d a tr cap .ni { s' with lo:=s.lo,rb:=s.rb } λs=>finK P b K .ret s
      | .ret=>zt P EC c d a tr cap .ni { s' with lo:=s.lo,rb:=s.rb } λs=>finK P b K .ret s
      | .pan v=>zt P EC c d a tr cap v { s' with lo:=s.lo,rb:=s.rb } λs=>finK P b K .ret s
      | .exit _=>none
     | false=>none
    | false=>none
   | _=>none) (λ_ _=>none)
  | .exit id=>finK P b K (.exit id) s
  | .ret=>finK P b K .ret s
  | .pan v=>finK P b K (.pan v) s) As s
def FV:List AC->Code->Code
 | [],c=>c
 | a::l,c=>.seq a.code (FV l c)
theorem Nc {α:Type} {E:List Ent} (p:∀x∈E,fW P x) {L:List Sub} {n:Nat} {k:Ex->St->Option α} {z:α} {c:Code} {ι0:Inj} {w0:Base} {Q:Exit->Act->World->Prop}
  (o:∀s ι a w,Inv n ι0 w0 ι s a w->k .normal s=some z->c.wp P Q a w)
  (f:∀ex s ι e a w,ex≠.normal->ExR ι ex e->Inv n ι0 w0 ι s a w->k ex s=some z->Q e a w):∀(As:List AC) (s:St) (ι:Inj) (a:Act) (w:World),(∀x∈As,jJ P n L x)->
   Inv n ι0 w0 ι s a w->runL P E L n k As s=some z->(FV As c).wp P Q a w
 | [],s,ι,a,w,_,m,h=>o s ι a w m h
 | x::l,s,ι,a,w,hs,m,h=>by
  simp only [runL] at h;refine wp_seq (wp_mono (pJ p x s _ z (hs x (by simp)) h ι0 w0 ι a w m) ?_);rintro e i w' ⟨ex,s',b,d,g,j⟩;cases ex with
  | normal=>simp only [ExR] at d;subst d;exact Nc p o f l s' b i w' (λy hy=>hs y (fi _ hy)) g j
  | exit id=>simp only [ExR] at d;subst d;exact f (.exit id) s' b _ i w' (by simp) rfl g j
  | ret=>simp only [ExR] at d;subst d;exact f .ret s' b _ i w' (by simp) rfl g j
  | pan v=>obtain ⟨y,rfl,hx⟩:=d;exact f (.pan v) s' b _ i w' (by simp) ⟨y,rfl,hx⟩ g j
theorem Inv.inner {n:Nat} {ι0 ι:Inj} {w0:Base} {s:St} {a:Act} {w:World} {D:List Deferred} (C:Inv n ι0 w0 ι s a w) (F:a.defers=D):Inv n ι ⟨w,D⟩ ι { s with lo:=s.nb,rb:=s.nb } a w:=
 ⟨C.size,F,C.tmps,C.mem,λ_ _ h=>.inl h,λ_ q h=>.inl ⟨q,h,rfl⟩,Fr.refl _ _,λb r h=>C.mem.low b r h,C.fz,C.glHere λ_ _ E=>⟨qo E,Ls E⟩⟩
theorem Inv.outer {n n':Nat} {ι0 ι E:Inj} {w0 w1:Base} {s s':St} {a a':Act} {w w':World} (O:Inv n ι0 w0 ι s a w) (hw:w1.w=w) (F:Inv n' ι w1 E s' a' w') (Y:s'.ro=s.ro) (hrb:s'.rb=s.nb):
  (∀b q,ι b=some q->E b=some q)/\(∀b q,ι0 b=some q->E b=some q\/s.rb<=b)/\(∀b q,E b=some (some q)->(∃Q,ι0 b=some (some Q)/\Q.r=q.r)\/w0.w.heap.size<=q.r)/\Fr (roI ι0 s.ro) w0.w w'/\
   (∀b q,E b=some (some q)->q.fz=true->b<s.ro):=by
 subst hw;have G:∀b q,ι b=some q->E b=some q:=by
  intro b q C;rcases F.ext b q C with h | h
  ·exact h
  ·have:=O.mem.low b q C;omega
 refine ⟨G,λb q C=>(O.ext b q C).imp (G b q) id,λb q C=>?_,O.fr.trans (λb q C=>?_) F.fr,λb q C hq=>by have:=F.fz b q C hq;omega⟩
 ·rcases F.new b q C with ⟨Q,W,U⟩ | h
  ·rw [<-U];exact O.new b Q W
  ·exact .inr (qR O.fr.size h)
 ·have X:=qo C;have Z:s.ro<=b:=by
   rw [Y] at C;unfold roI at C;cases J:Nat.blt b s.ro with
   | true=>simp [J] at C
   | false=>
    rcases aH b s.ro with h | h
    ·rw [show Nat.blt b s.ro=true from cT h] at J;cases J
    ·exact h
  exact (O.new b q X).imp (λ⟨Q,h,U⟩=>⟨Q,Dw h Z,U⟩) id
theorem KW {α:Type} {E:List Ent} (hE:∀x∈E,fW P x) {L:List Sub} {g:Nat} {fn:Func} {m:AC} {idR:Nat} {oR:Oper} {tr:Nat} {crest:Code} (hf:P.funcs[g]?=some fn)
  (hb:fn.body=some (.seq (.region idR #[oR] false) crest)) (hoR:oR.op=.call ⟨.builtin .recover,#[],#[]⟩) (hgR:oR.guard=none) (hdR:oR.dst=some tr) (R:fn.results=#[]) (hc:m.code=crest)
  (hL:jJ P fn.ntmps L m) {cap:List V} {v:V} {s:St} {k:St->Option α} {z:α} (h:zt P E L fn.ntmps m tr cap v s k=some z)
  {n:Nat} {ι0 ι:Inj} {w0:Base} {a:Act} {w:World} (i:Inv n ι0 w0 ι s a w) {j:List Value} (B:VRs ι cap j) {x:Value} (hx:VR ι v x) {u A:FrameMode}
  (hu:(u=.returning/\A=.returning/\x=.nilIface)\/∃y,u=.panicking [{ v:=y,recovered:=false }]/\A=.panicking [{ v:=y,recovered:=true }]/\x=y):
  CallsD P g j.toArray u w λe D w'=>D=A/\∃(y:Value) (s':St) (F:Inj),e=.returned y/\k s'=some z/\Inv n ι0 w0 F s' a w'/\s'.T=s.T:=by
 unfold zt at h;split at h
 case h_2=>cases h
 rename_i f;simp only [aA] at f;have htr:tr<fn.ntmps:=aL f.1;have hcl:cap.length<=fn.ntmps:=aL f.2.1;have hct:cap.length<=tr:=aL f.2.2;have hlen:j.length=cap.length:=B.length;refine callsD_of_wpS hf hb λd U C=>?_;have Y:∀a:Act,(execOp a.eval oR).run P w=.ok .recover w:=by
  intro a;simp [execOp,hoR,resolve,invoke,builtin]
 have p:∀K:List Frame,K={ d with mode:=A }::U->
   crest.wpS P (bodyPostS P fn d U λe D w'=>D=A/\∃(y:Value) (s':St) (F:Inj),e=.returned y/\k s'=some z/\Inv n ι0 w0 F s' a w'/\s'.T=s.T)
    (({ tmps:=j.toArray++Array.replicate (fn.ntmps - j.toArray.size) undef,defers:=[] }:Act).put oR.dst x) K w:=by
  intro K hfs;have hI2:Inv fn.ntmps ι ⟨w,[]⟩ ι ⟨(tr,some v)::tK cap 0,s.H,s.nb,s.nb,s.ro,s.nb⟩ (({ tmps:=j.toArray++Array.replicate (fn.ntmps - j.toArray.size) undef,defers:=[] }:Act).put oR.dst x) w:=by
   refine ⟨by rw [nz];simp;omega,by rw [jx],?_,i.mem,λ_ _ h=>.inl h,λ_ q h=>.inl ⟨q,h,rfl⟩,Fr.refl _ _,λb r h=>i.mem.low b r h,i.fz,i.glHere λ_ _ hb=>⟨qo hb,Ls hb⟩⟩;rw [hdR];refine TR.put (λt u X=>?_) (by simp;omega) (λu hu=>by cases hu;exact hx);rw [sq,ae (jI _)] at X;simp only [qT] at X;cases hl:cap[t]? with
   | none=>simp [hl] at X
   | some u=>
    simp only [hl,fa,av] at X;subst X;obtain ⟨x,O,N⟩:=B.get hl;have h1':j.toArray[t]?=some x:=by simpa using O
    have hlt:t<j.toArray.size:=by
     rcases aH t j.toArray.size with h' | h'
     ·exact h'
     ·rw [yd h'] at h1';cases h1'
    exact ⟨x,by rw [Uu hlt];exact h1',N⟩
  subst hc hfs;refine wpS_of_wp (uJ ?_ (pJ hE m _ _ z hL h ι ⟨w,[]⟩ ι _ w hI2));rintro e a' w' ⟨ex,s2,I,O,N,M⟩;split at M
  case h_2=>cases M
  rename_i W;simp only [aA,jk] at W;obtain ⟨Z,S⟩:=W;obtain ⟨Q,o1,o2,o3,o4⟩:=i.outer rfl N Z S;have o:Inv n ι0 w0 I { s with H:=s2.H,nb:=s2.nb } a w':=⟨i.size,i.defers,i.tmps.mono Q,N.mem,o1,o2,o3,i.low,o4,i.gl⟩;have c:(results fn a'.tmps).run P w'=.ok (.tuple #[]) w':=by
   rw [zH,R];simp [aD]
  cases ex with
  | normal=>simp only [ExR] at O;subst O;exact ⟨N.defers,A,rfl,_,c,rfl,_,_,I,rfl,M,o,rfl⟩
  | ret=>simp only [ExR] at O;subst O;exact ⟨N.defers,A,rfl,_,c,rfl,_,_,I,rfl,M,o,rfl⟩
  | exit id=>cases M
  | pan v=>cases M
 refine wpS_seq (wpS_region ?_);show wpOpsS P #[oR] _ [0] _ _ w;simp only [wpOpsS];have h0:(#[oR]:Array Oper)[0]?=some oR:=rfl;rw [h0];simp only;have hw:∀y,Region.wanted oR y=true:=λy=>by simp [Region.wanted,hgR]
 rw [hw];simp only [aO,Y];rcases hu with ⟨l,G,J⟩ | ⟨y,l,G,J⟩
 ·subst J;have:recoverD (d::U)=none:=by simp [recoverD,C,l]
  rw [this];exact p _ (by rw [G,<-l,<-C])
 ·subst J;have:recoverD (d::U)=some (x,{ d with mode:=A }::U):=by simp [recoverD,C,l,G]
  rw [this];exact p _ rfl
theorem Qw {α:Type} {E:List Ent} (hE:∀x∈E,fW P x) {L:List Sub} {f:Nat} {fn:Func} {c:Code} {As:List AC} {o1 oD:Oper} {g:Operand} {gid idD:Nat} {acB:AC} {cB:Code} (hf:P.funcs[f]?=some fn)
  (W:fn.body=some c) (hcB:acB.code=cB) (hc:FV As (.seq (.region idD #[o1,oD] false) cB)=c) (hLA:∀x∈As,jJ P fn.ntmps L x) (hLB:jJ P fn.ntmps L acB) (hg1:o1.guard=none) (hgD:oD.guard=none)
  (hoD:oD.op=.defer ⟨.value g,#[],#[]⟩) (hdD:oD.dst=none)
  {EC:List Ent} (hEC:∀x∈EC,fW P x) {LC:List Sub} {m:Func} {F:AC} {idR:Nat} {oR:Oper} {tr:Nat} {crest:Code} (hfC:P.funcs[gid]?=some m)
  (hbC:m.body=some (.seq (.region idR #[oR] false) crest)) (hoR:oR.op=.call ⟨.builtin .recover,#[],#[]⟩) (hgR:oR.guard=none) (hdR:oR.dst=some tr) (Q:m.results=#[]) (hcC:F.code=crest)
  (hLC:jJ P m.ntmps LC F) (hEn:kM P gid)
  {args:List V} {H0:List (Nat×Blk)} {nb0 ro rb:Nat} {K:Bool->V->St->Option α} {z:α} (hn:Nat.ble args.length fn.ntmps=true)
  (h:UQ P E L fn.ntmps As o1 g gid acB EC LC m.ntmps F tr fn.results.toList K ⟨tK args 0,H0,nb0,nb0,ro,rb⟩=some z):CG P f args H0 nb0 ro K z:=by
 intro ι0 w J hW hfz hgl hx;have hlen:J.size=args.length:=by simpa using hx.length
 have hn:=aL hn;refine calls_of_wp_defers hf W ?_;rw [<-hc];have hI:Inv fn.ntmps ι0 ⟨w,[]⟩ ι0 ⟨tK args 0,H0,nb0,nb0,ro,rb⟩ { tmps:=J++Array.replicate (fn.ntmps - J.size) undef,defers:=[] } w:=by
  refine ⟨by simp;omega,rfl,λt v hv=>?_,hW,λ_ _ h=>.inl h,λ_ q h=>.inl ⟨q,h,rfl⟩,Fr.refl _ _,λb r h=>hW.low b r h,hfz,hgl⟩;rw [sq,ae (jI _)] at hv;simp only [qT] at hv;cases hl:args[t]? with
  | none=>simp [hl] at hv
  | some u=>
   simp only [hl,fa,av] at hv;subst hv;obtain ⟨x,o,i⟩:=hx.get hl;have h1':J[t]?=some x:=by simpa using o
   have hlt:t<J.size:=by
    rcases aH t J.size with h' | h'
    ·exact h'
    ·rw [yd h'] at h1';cases h1'
   exact ⟨x,by rw [Uu hlt];exact h1',i⟩
 have fin:∀{D:List Deferred} (s':St) (j:Inj) (B:Act) (w':World),Inv fn.ntmps ι0 ⟨w,D⟩ j s' B w'->finK P fn.results.toList K .ret s'=some z->
   ∃v,(results fn B.tmps).run P w'=.ok v w'/\∃(pan:Bool) (u:V) (s:St) (ι:Inj),K pan u s=some z/\(∀b q,ι0 b=some q->ι b=some q\/s.rb<=b)/\(∀b q,ι b=some (some q)->(∃q',ι0 b=some (some q')/\q'.r=q.r)\/w.heap.size<=q.r)/\
   WR ι s.H s.nb w'/\(∀b q,ι b=some (some q)->q.fz=true->b<s.ro)/\Fr (roI ι0 s.ro) w w'/\RetR ι { val:=u,pan:=pan } (.returned v):=by
  intro D s' j B w' i n;simp only [finK] at n;obtain ⟨v,x,S,O,g3⟩:=Af (fn:=fn) (c:=λv=>K false v s') i n;exact ⟨x,g3,false,v,s',j,S,i.ext,i.new,i.mem,i.fz,i.fr,rfl,O⟩
 refine Nc hE ?_ ?_ As _ ι0 _ w hLA hI h
 ·
  intro s ι a w1 X hk;simp only at hk;refine wp_seq (wp_region_lit (l:=[o1,oD]) ?_);unfold wpList;have hw1:∀y,Region.wanted o1 y=true:=λy=>by simp [Region.wanted,hg1]
  have hwD:∀y,Region.wanted oD y=true:=λy=>by simp [Region.wanted,hgD]
  rw [hw1];simp only [aO];refine .inl (CH hE X (λb W=>X.fresh b W) (aV _) hk (λs2 I a2 U p d=>?_) (λv s' j x B w' hk=>by cases hk));split at p
  case h_2=>cases p
  rename_i M cap hgo;split at p
  case h_2=>cases p
  rename_i hff;simp only [aA,jk] at hff;obtain ⟨R,hff2⟩:=hff;subst R;obtain ⟨G,Z,hv2⟩:=Ro d.tmps hgo;rw [Gl hff2] at Z;unfold wpList;rw [hwD];simp only [aO];refine .inl ?_;unfold Oper.wp;have hrun:(execOp a2.eval oD).run P U=.ok (.defer { target:=.fn (.func M) G,args:=#[] }) U:=by
   simp only [execOp,hoD,resolve,Z,Deferred.ofValue,ax,aD,az];simp
  rw [hrun,Oper.upon_defer,hdD];simp only [Act.put];unfold wpList;simp only [Exit.then];have C:Inv fn.ntmps ι0 ⟨w,[{ target:=.fn (.func M) G,args:=#[] }]⟩ I s2 { a2 with defers:={ target:=.fn (.func M) G,args:=#[] }::a2.defers } U:=
   ⟨d.size,by rw [d.defers],d.tmps,d.mem,d.ext,d.new,d.fr,d.low,d.fz,d.gl⟩
  subst hcB;refine uJ ?_ (pJ hE acB _ _ z hLB p I ⟨U,[{ target:=.fn (.func M) G,args:=#[] }]⟩ I _ U (C.inner C.defers));rintro e B w' ⟨ex,s',j,o,i,n⟩;split at n
  case h_2=>cases n
  rename_i Y;simp only [aA,jk] at Y;obtain ⟨A,T⟩:=Y;obtain ⟨N,o1,o2,o3,o4⟩:=C.outer rfl i A T;have hI4:Inv fn.ntmps ι0 ⟨w,[{ target:=.fn (.func M) G,args:=#[] }]⟩ j { s' with lo:=s2.lo,rb:=s2.rb } B w':=
   ⟨i.size,i.defers,i.tmps,i.mem,o1,o2,by show Fr (roI ι0 s'.ro) w w';rw [A];exact o3,d.low,λb q W hq=>by have:=o4 b q W hq;simp only;omega,by show GL (roI ι0 s'.ro) w;rw [A];exact C.gl⟩
  have hcv:=VRs.mono N _ _ hv2;have k:∀(v:V) (x:Value) (u u':FrameMode),VR j v x->u≠.run->(settle u'=.returning)->
    ((u=.returning/\u'=.returning/\x=.nilIface)\/∃y,u=.panicking [{ v:=y,recovered:=false }]/\u'=.panicking [{ v:=y,recovered:=true }]/\x=y)->
    zt P EC LC m.ntmps F tr cap v { s' with lo:=s2.lo,rb:=s2.rb } (λs=>finK P fn.results.toList K .ret s)=some z->
    Leaves P fn B.tmps (λe w'=>∃(pan:Bool) (u:V) (s:St) (ι:Inj),K pan u s=some z/\(∀b q,ι0 b=some q->ι b=some q\/s.rb<=b)/\(∀b q,ι b=some (some q)->(∃q',ι0 b=some (some q')/\q'.r=q.r)\/w.heap.size<=q.r)/\
     WR ι s.H s.nb w'/\(∀b q,ι b=some (some q)->q.fz=true->b<s.ro)/\Fr (roI ι0 s.ro) w w'/\RetR ι { val:=u,pan:=pan } e) B.defers u w':=by
   intro v x u u' hvx hur hset hu ha;rw [i.defers];refine leaves_cons hur (f:=M) (args:=G.toList.toArray) ?_ ?_
   ·have:=hEn G w';simpa [invoke] using this
   ·refine (KW hEC hfC hbC hoR hgR hdR Q hcC hLC ha hI4 hcv hvx hu).mono ?_;rintro e u'' w'' ⟨rfl,y,s3,ι3,rfl,h4,h5,h6⟩;obtain ⟨v,S,O⟩:=fin s3 ι3 B w'' h5 h4;simp only [hset];exact ⟨v,S,O⟩
  cases ex with
  | normal=>simp only [ExR] at o;subst o;exact k .ni .nilIface .returning .returning (by simp [VR]) (by simp) rfl (.inl ⟨rfl,rfl,rfl⟩) n
  | ret=>simp only [ExR] at o;subst o;exact k .ni .nilIface .returning .returning (by simp [VR]) (by simp) rfl (.inl ⟨rfl,rfl,rfl⟩) n
  | exit id=>cases n
  | pan v=>
   obtain ⟨x,rfl,hx⟩:=o;exact k v x (.panicking [{ v:=x,recovered:=false }]) (.panicking [{ v:=x,recovered:=true }]) hx (by simp) (by simp [settle]) (.inr ⟨x,rfl,rfl,rfl⟩) n
 ·rintro ex s ι e a w1 hne o i n;cases ex with
  | normal=>exact absurd rfl hne
  | exit id=>simp [finK] at n
  | ret=>
   simp only [ExR] at o;subst o;obtain ⟨v,S,O⟩:=fin s ι a w1 i n;show Leaves P fn a.tmps _ a.defers .returning w1;rw [i.defers];exact ⟨v,S,O⟩
  | pan v=>
   obtain ⟨x,rfl,hx⟩:=o;show Leaves P fn a.tmps _ a.defers (.panicking _) w1;rw [i.defers];exact ⟨true,v,s,ι,n,i.ext,i.new,i.mem,i.fz,i.fr,rfl,x,rfl,hx⟩
def qC:Nat->AC->List AC
 | n+1,.seq a b=>a::qC n b
 | _,_=>[]
def ko:Nat->AC->AC
 | n+1,.seq _ b=>ko n b
 | _,c=>c
theorem vf:∀(n:Nat) (c:AC),FV (qC n c) (ko n c).code=c.code
 | 0,c=>by simp [qC,ko,FV]
 | n+1,.seq a b=>by simp [qC,ko,FV,vf n b,AC.code]
 | n+1,.skip | n+1,.ret | n+1,.exit _ | n+1,.cond _ _ _ | n+1,.block _ _ | n+1,.reg _ _ | n+1,.draw _ _ | n+1,.sub _ _ | n+1,.loop _ | n+1,.scope _ | n+1,.label _ | n+1,.bad _=>by
  simp [qC,ko,FV]
def RF:AC->List Oper
 | .seq (.reg _ l) _=>l
 | _=>[]
def getO (l:List Oper) (i:Nat):Oper:=l.getD i default
theorem xu {n:Nat} {L:List Sub}:∀(k:Nat) (c:AC),jJ P n L c->(∀x∈qC k c,jJ P n L x)/\jJ P n L (ko k c)
 | 0,c,h=>⟨by simp [qC],by simpa [ko] using h⟩
 | k+1,.seq a b,h=>by
  simp only [jJ] at h;have:=xu k b h.2;exact ⟨λx hx=>by
   simp only [qC,cf] at hx;rcases hx with rfl | hx
   ·exact h.1
   ·exact this.1 x hx,by simpa [ko] using this.2⟩
 | k+1,.skip,h | k+1,.ret,h | k+1,.exit _,h | k+1,.cond _ _ _,h | k+1,.block _ _,h | k+1,.reg _ _,h | k+1,.draw _ _,h | k+1,.sub _ _,h | k+1,.loop _,h | k+1,.scope _,h | k+1,.label _,h | k+1,.bad _,h=>by
  exact ⟨by simp [qC],by simpa [ko] using h⟩
theorem Og {α:Type} {E:List Ent} (G:∀x∈E,fW P x) {L:List Sub} {f:Nat} {fn:Func} {c:Code} {ac:AC} {k:Nat} {o1 oD:Oper} {g:Operand} {gid idD:Nat} {acB:AC} (D:P.funcs[f]?=some fn)
  (H:fn.body=some c) (j:ac.code=c) (i:ko k ac=.seq (.reg idD [o1,oD]) acB) (F:jJ P fn.ntmps L ac) (v:o1.guard=none) (u:oD.guard=none)
  (y:oD.op=.defer ⟨.value g,#[],#[]⟩) (A:oD.dst=none)
  {EC:List Ent} (p:∀x∈EC,fW P x) {B:List Sub} {b:Func} {C:Code} {a:AC} {idR:Nat} {oR:Oper} {tr:Nat} (m:P.funcs[gid]?=some b)
  (t:b.body=some C) (o:a.code=C) (e:ko 0 a=.seq (.reg idR [oR]) (ko 1 a)) (l:oR.op=.call ⟨.builtin .recover,#[],#[]⟩) (s:oR.guard=none) (r:oR.dst=some tr) (d:b.results=#[])
  (w:jJ P b.ntmps B a) (q:kM P gid)
  {args:List V} {H0:List (Nat×Blk)} {nb0 ro rb:Nat} {K:Bool->V->St->Option α} {z:α} (I:Nat.ble args.length fn.ntmps=true)
  (h:UQ P E L fn.ntmps (qC k ac) o1 g gid acB EC B b.ntmps (ko 1 a) tr fn.results.toList K ⟨tK args 0,H0,nb0,nb0,ro,rb⟩=some z):CG P f args H0 nb0 ro K z:=by
 have hs:=xu k ac F;have n:jJ P fn.ntmps L acB:=by
  have:=hs.2;rw [i] at this;simp only [jJ] at this;exact this.2
 refine Qw G D H rfl (As:=qC k ac) (o1:=o1) (oD:=oD) (idD:=idD) (acB:=acB) ?_ hs.1 n v u y A p m (idR:=idR) (oR:=oR) (crest:=(ko 1 a).code) ?_ l s r d rfl (xu 1 a w).2 q I h
 ·rw [<-j,<-vf k ac,i];rfl
 ·rw [t,<-o,<-vf 0 a,e];rfl
end Go.Abs
