
/- Functions that defer a closure: what they come to.
   Conditions: none; generic over the program. -/
import Derived.Test.YthemneooekobkaaGreatDoorAbsP
import Derived.Recover
set_option linter.unusedSimpArgs false
set_option linter.unusedVariables false
namespace Go.Abs
variable {P:Program}
def runL {α:Type} (P:Program) (E:List Ent) (L:List Sub) (n:Nat) (k:Ex->St->Option α):List AC->St->Option α
 | [],s=>k .normal s
 | a::l,s=>run P E L n a s λex s=>match ex with
  | .normal=>runL P E L n k l s
  | .exit id=>k (.exit id) s
  | .ret=>k .ret s
  | .pan v=>k (.pan v) s
def zP {α:Type} (P:Program) (E:List Ent) (L:List Sub) (b:Nat) (c:AC) (tr:Nat) (cap:List V) (v:V) (s:St) (k:St->Option α):Option α:=
 match Nat.blt tr b&&(Nat.ble cap.length b&&Nat.ble cap.length tr) with
 | true=>run P E L b c ⟨(tr,some v)::tC cap 0,s.H,s.nb,s.nb,s.ro,s.nb⟩ λex a=>match Nat.beq a.ro s.ro&&Nat.beq a.rb s.nb with
  | true=>match ex with
   | .normal=>k { s with H:=a.H,nb:=a.nb }
   | .ret=>k { s with H:=a.H,nb:=a.nb }
   | .exit _=>none
   | .pan _=>none
  | false=>none
 | false=>none
def UO {α:Type} (P:Program) (E:List Ent) (L:List Sub) (n:Nat) (As:List AC) (o1:Oper) (g:Operand) (gid:Nat) (acB:AC) (EC:List Ent) (d:List Sub) (c:Nat) (a:AC) (tr:Nat)
  (b:List ResultVar) (K:Bool->V->St->Option α) (s:St):Option α:=
 runL P E L n (λex s=>match ex with
  | .normal=>NP P E n s.nb o1 s (λs=>match opd s.T g with
   | some (.fn f cap)=>match Nat.beq f gid&&Nat.blt f 1000000 with
    | true=>run P E L n acB { s with lo:=s.nb,rb:=s.nb } λex s'=>match Nat.beq s'.ro s.ro&&Nat.beq s'.rb s.nb with
     | true=>match ex with
      | .normal=>zP P EC d c a tr cap .ni { s' with lo:=s.lo,rb:=s.rb } λs=>finK P b K .ret s
      | .ret=>zP P EC d c a tr cap .ni { s' with lo:=s.lo,rb:=s.rb } λs=>finK P b K .ret s
      | .pan v=>zP P EC d c a tr cap v { s' with lo:=s.lo,rb:=s.rb } λs=>finK P b K .ret s
      | .exit _=>none
     | false=>none
    | false=>none
   | _=>none) (λ_ _=>none)
  | .exit id=>finK P b K (.exit id) s
  | .ret=>finK P b K .ret s
  | .pan v=>finK P b K (.pan v) s) As s
def E7:List AC->Code->Code
 | [],c=>c
 | a::l,c=>.seq a.code (E7 l c)
theorem NR {α:Type} {E:List Ent} (o:∀x∈E,ge P x) {L:List Sub} {n:Nat} {k:Ex->St->Option α} {z:α} {c:Code} {ι0:Inj} {w0:Base} {Q:Exit->Act->World->Prop}
  (p:∀s ι a w,Inv n ι0 w0 ι s a w->k .normal s=some z->c.wp P Q a w)
  (g:∀ex s ι e a w,ex≠.normal->ExR ι ex e->Inv n ι0 w0 ι s a w->k ex s=some z->Q e a w):∀(As:List AC) (s:St) (ι:Inj) (a:Act) (w:World),(∀x∈As,jV P n L x)->
   Inv n ι0 w0 ι s a w->runL P E L n k As s=some z->(E7 As c).wp P Q a w
 | [],s,ι,a,w,_,m,h=>p s ι a w m h
 | x::l,s,ι,a,w,hs,m,h=>by
  simp only [runL] at h;refine wp_seq (wp_mono (pm o x s _ z (hs x (by simp)) h ι0 w0 ι a w m) ?_);rintro e i w' ⟨ex,s',b,d,f,j⟩;cases ex with
  | normal=>simp only [ExR] at d;subst d;exact NR o p g l s' b i w' (λy hy=>hs y (fN _ hy)) f j
  | exit id=>simp only [ExR] at d;subst d;exact g (.exit id) s' b _ i w' (by simp) rfl f j
  | ret=>simp only [ExR] at d;subst d;exact g .ret s' b _ i w' (by simp) rfl f j
  | pan v=>obtain ⟨y,rfl,hx⟩:=d;exact g (.pan v) s' b _ i w' (by simp) ⟨y,rfl,hx⟩ f j
theorem Inv.inner {n:Nat} {ι0 ι:Inj} {w0:Base} {s:St} {a:Act} {w:World} {D:List Deferred} (C:Inv n ι0 w0 ι s a w) (F:a.defers=D):Inv n ι ⟨w,D⟩ ι { s with lo:=s.nb,rb:=s.nb } a w:=
 ⟨C.size,F,C.tmps,C.mem,λ_ _ h=>.inl h,λ_ q h=>.inl ⟨q,h,rfl⟩,Fr.refl _ _,λb r h=>C.mem.low b r h,C.fz,C.glHere λ_ _ E=>⟨ql E,On E⟩⟩
theorem Inv.outer {n n':Nat} {ι0 ι C:Inj} {w0 w1:Base} {s s':St} {a a':Act} {w w':World} (Q:Inv n ι0 w0 ι s a w) (hw:w1.w=w) (F:Inv n' ι w1 C s' a' w') (U:s'.ro=s.ro) (hrb:s'.rb=s.nb):
  (∀b q,ι b=some q->C b=some q)/\(∀b q,ι0 b=some q->C b=some q\/s.rb<=b)/\(∀b q,C b=some (some q)->(∃O,ι0 b=some (some O)/\O.r=q.r)\/w0.w.heap.size<=q.r)/\Fr (roI ι0 s.ro) w0.w w'/\
   (∀b q,C b=some (some q)->q.fz=true->b<s.ro):=by
 subst hw;have G:∀b q,ι b=some q->C b=some q:=by
  intro b q E;rcases F.ext b q E with h | h
  ·exact h
  ·have:=Q.mem.low b q E;omega
 refine ⟨G,λb q E=>(Q.ext b q E).imp (G b q) id,λb q E=>?_,Q.fr.trans (λb q E=>?_) F.fr,λb q E hq=>by have:=F.fz b q E hq;omega⟩
 ·rcases F.new b q E with ⟨O,Y,Z⟩ | h
  ·rw [<-Z];exact Q.new b O Y
  ·exact .inr (rF Q.fr.size h)
 ·have W:=ql E;have X:s.ro<=b:=by
   rw [U] at E;unfold roI at E;cases J:Nat.blt b s.ro with
   | true=>simp [J] at E
   | false=>
    rcases aI b s.ro with h | h
    ·rw [show Nat.blt b s.ro=true from dm h] at J;cases J
    ·exact h
  exact (Q.new b q W).imp (λ⟨O,h,Z⟩=>⟨O,Eh h X,Z⟩) id
theorem N8 {α:Type} {E:List Ent} (hE:∀x∈E,ge P x) {L:List Sub} {g:Nat} {fn:Func} {m:AC} {idR:Nat} {oR:Oper} {tr:Nat} {crest:Code} (hf:P.funcs[g]?=some fn)
  (hb:fn.body=some (.seq (.region idR #[oR] false) crest)) (hoR:oR.op=.call ⟨.builtin .recover,#[],#[]⟩) (hgR:oR.guard=none) (hdR:oR.dst=some tr) (W:fn.results=#[]) (hc:m.code=crest)
  (hL:jV P fn.ntmps L m) {cap:List V} {v:V} {s:St} {k:St->Option α} {z:α} (h:zP P E L fn.ntmps m tr cap v s k=some z)
  {n:Nat} {ι0 ι:Inj} {w0:Base} {a:Act} {w:World} (j:Inv n ι0 w0 ι s a w) {i:List Value} (o:VRs ι cap i) {x:Value} (hx:VR ι v x) {u A:FrameMode}
  (hu:(u=.returning/\A=.returning/\x=.nilIface)\/∃y,u=.panicking [{ v:=y,recovered:=false }]/\A=.panicking [{ v:=y,recovered:=true }]/\x=y):
  CallsD P g i.toArray u w λe J w'=>J=A/\∃(y:Value) (s':St) (C:Inj),e=.returned y/\k s'=some z/\Inv n ι0 w0 C s' a w'/\s'.T=s.T:=by
 unfold zP at h;split at h
 case h_2=>cases h
 rename_i f;simp only [aD] at f;have htr:tr<fn.ntmps:=aN f.1;have hcl:cap.length<=fn.ntmps:=aN f.2.1;have hct:cap.length<=tr:=aN f.2.2;have hlen:i.length=cap.length:=o.length;refine callsD_of_wpS hf hb λd S G=>?_;have Z:∀a:Act,(execOp a.eval oR).run P w=.ok .recover w:=by
  intro a;simp [execOp,hoR,resolve,invoke,builtin]
 have p:∀K:List Frame,K={ d with mode:=A }::S->
   crest.wpS P (bodyPostS P fn d S λe J w'=>J=A/\∃(y:Value) (s':St) (C:Inj),e=.returned y/\k s'=some z/\Inv n ι0 w0 C s' a w'/\s'.T=s.T)
    (({ tmps:=i.toArray++Array.replicate (fn.ntmps - i.toArray.size) undef,defers:=[] }:Act).put oR.dst x) K w:=by
  intro K hfs;have hI2:Inv fn.ntmps ι ⟨w,[]⟩ ι ⟨(tr,some v)::tC cap 0,s.H,s.nb,s.nb,s.ro,s.nb⟩ (({ tmps:=i.toArray++Array.replicate (fn.ntmps - i.toArray.size) undef,defers:=[] }:Act).put oR.dst x) w:=by
   refine ⟨by rw [nh];simp;omega,by rw [jO],?_,j.mem,λ_ _ h=>.inl h,λ_ q h=>.inl ⟨q,h,rfl⟩,Fr.refl _ _,λb r h=>j.mem.low b r h,j.fz,j.glHere λ_ _ hb=>⟨ql hb,On hb⟩⟩;rw [hdR];refine TR.put (λt u X=>?_) (by simp;omega) (λu hu=>by cases hu;exact hx);rw [sj,ae (ie _)] at X;simp only [rN] at X;cases hl:cap[t]? with
   | none=>simp [hl] at X
   | some u=>
    simp only [hl,fi,aw] at X;subst X;obtain ⟨x,M,O⟩:=o.get hl;have h1':i.toArray[t]?=some x:=by simpa using M
    have hlt:t<i.toArray.size:=by
     rcases aI t i.toArray.size with h' | h'
     ·exact h'
     ·rw [vU h'] at h1';cases h1'
    exact ⟨x,by rw [Ut hlt];exact h1',O⟩
  subst hc hfs;refine wpS_of_wp (uu ?_ (pm hE m _ _ z hL h ι ⟨w,[]⟩ ι _ w hI2));rintro e a' w' ⟨ex,s2,I,M,O,N⟩;split at N
  case h_2=>cases N
  rename_i R;simp only [aD,jq] at R;obtain ⟨U,Q⟩:=R;obtain ⟨Y,o1,o2,o3,o4⟩:=j.outer rfl O U Q;have B:Inv n ι0 w0 I { s with H:=s2.H,nb:=s2.nb } a w':=⟨j.size,j.defers,j.tmps.mono Y,O.mem,o1,o2,o3,j.low,o4,j.gl⟩;have c:(results fn a'.tmps).run P w'=.ok (.tuple #[]) w':=by
   rw [Ap,W];simp [aF]
  cases ex with
  | normal=>simp only [ExR] at M;subst M;exact ⟨O.defers,A,rfl,_,c,rfl,_,_,I,rfl,N,B,rfl⟩
  | ret=>simp only [ExR] at M;subst M;exact ⟨O.defers,A,rfl,_,c,rfl,_,_,I,rfl,N,B,rfl⟩
  | exit id=>cases N
  | pan v=>cases N
 refine wpS_seq (wpS_region ?_);show wpOpsS P #[oR] _ [0] _ _ w;simp only [wpOpsS];have h0:(#[oR]:Array Oper)[0]?=some oR:=rfl;rw [h0];simp only;have hw:∀y,Region.wanted oR y=true:=λy=>by simp [Region.wanted,hgR]
 rw [hw];simp only [aM,Z];rcases hu with ⟨l,D,F⟩ | ⟨y,l,D,F⟩
 ·subst F;have:recoverD (d::S)=none:=by simp [recoverD,G,l]
  rw [this];exact p _ (by rw [D,<-l,<-G])
 ·subst F;have:recoverD (d::S)=some (x,{ d with mode:=A }::S):=by simp [recoverD,G,l,D]
  rw [this];exact p _ rfl
theorem QR {α:Type} {E:List Ent} (hE:∀x∈E,ge P x) {L:List Sub} {f:Nat} {fn:Func} {c:Code} {As:List AC} {o1 oD:Oper} {g:Operand} {gid idD:Nat} {acB:AC} {cB:Code} (hf:P.funcs[f]?=some fn)
  (Q:fn.body=some c) (hcB:acB.code=cB) (hc:E7 As (.seq (.region idD #[o1,oD] false) cB)=c) (hLA:∀x∈As,jV P fn.ntmps L x) (hLB:jV P fn.ntmps L acB) (hg1:o1.guard=none) (hgD:oD.guard=none)
  (hoD:oD.op=.defer ⟨.value g,#[],#[]⟩) (hdD:oD.dst=none)
  {EC:List Ent} (hEC:∀x∈EC,ge P x) {LC:List Sub} {n:Func} {B:AC} {idR:Nat} {oR:Oper} {tr:Nat} {crest:Code} (hfC:P.funcs[gid]?=some n)
  (hbC:n.body=some (.seq (.region idR #[oR] false) crest)) (hoR:oR.op=.call ⟨.builtin .recover,#[],#[]⟩) (hgR:oR.guard=none) (hdR:oR.dst=some tr) (R:n.results=#[]) (hcC:B.code=crest)
  (hLC:jV P n.ntmps LC B) (hEn:me P gid)
  {args:List V} {H0:List (Nat×Blk)} {nb0 ro rb:Nat} {K:Bool->V->St->Option α} {z:α} (hn:Nat.ble args.length fn.ntmps=true)
  (h:UO P E L fn.ntmps As o1 g gid acB EC LC n.ntmps B tr fn.results.toList K ⟨tC args 0,H0,nb0,nb0,ro,rb⟩=some z):AK P f args H0 nb0 ro K z:=by
 intro ι0 w M hW hfz hgl hx;have hlen:M.size=args.length:=by simpa using hx.length
 have hn:=aN hn;refine calls_of_wp_defers hf Q ?_;rw [<-hc];have hI:Inv fn.ntmps ι0 ⟨w,[]⟩ ι0 ⟨tC args 0,H0,nb0,nb0,ro,rb⟩ { tmps:=M++Array.replicate (fn.ntmps - M.size) undef,defers:=[] } w:=by
  refine ⟨by simp;omega,rfl,λt v hv=>?_,hW,λ_ _ h=>.inl h,λ_ q h=>.inl ⟨q,h,rfl⟩,Fr.refl _ _,λb r h=>hW.low b r h,hfz,hgl⟩;rw [sj,ae (ie _)] at hv;simp only [rN] at hv;cases hl:args[t]? with
  | none=>simp [hl] at hv
  | some u=>
   simp only [hl,fi,aw] at hv;subst hv;obtain ⟨x,A,i⟩:=hx.get hl;have h1':M[t]?=some x:=by simpa using A
   have hlt:t<M.size:=by
    rcases aI t M.size with h' | h'
    ·exact h'
    ·rw [vU h'] at h1';cases h1'
   exact ⟨x,by rw [Ut hlt];exact h1',i⟩
 have fin:∀{D:List Deferred} (s':St) (k:Inj) (F:Act) (w':World),Inv fn.ntmps ι0 ⟨w,D⟩ k s' F w'->finK P fn.results.toList K .ret s'=some z->
   ∃v,(results fn F.tmps).run P w'=.ok v w'/\∃(pan:Bool) (u:V) (s:St) (ι:Inj),K pan u s=some z/\(∀b q,ι0 b=some q->ι b=some q\/s.rb<=b)/\(∀b q,ι b=some (some q)->(∃q',ι0 b=some (some q')/\q'.r=q.r)\/w.heap.size<=q.r)/\
   WR ι s.H s.nb w'/\(∀b q,ι b=some (some q)->q.fz=true->b<s.ro)/\Fr (roI ι0 s.ro) w w'/\RetR ι { val:=u,pan:=pan } (.returned v):=by
  intro D s' k F w' i m;simp only [finK] at m;obtain ⟨v,x,g1,Z,g3⟩:=zl (fn:=fn) (c:=λv=>K false v s') i m;exact ⟨x,g3,false,v,s',k,g1,i.ext,i.new,i.mem,i.fz,i.fr,rfl,Z⟩
 refine NR hE ?_ ?_ As _ ι0 _ w hLA hI h
 ·
  intro s ι a w1 Y hk;simp only at hk;refine wp_seq (wp_region_lit (l:=[o1,oD]) ?_);unfold wpList;have hw1:∀y,Region.wanted o1 y=true:=λy=>by simp [Region.wanted,hg1]
  have hwD:∀y,Region.wanted oD y=true:=λy=>by simp [Region.wanted,hgD]
  rw [hw1];simp only [aM];refine .inl (CP hE Y (λb Q=>Y.fresh b Q) (bi _) hk (λU I a2 w2 p d=>?_) (λv s' k x F w' hk=>by cases hk));split at p
  case h_2=>cases p
  rename_i J cap hgo;split at p
  case h_2=>cases p
  rename_i hff;simp only [aD,jq] at hff;obtain ⟨T,W⟩:=hff;subst T;obtain ⟨G,X,hv2⟩:=RX d.tmps hgo;rw [Gg W] at X;unfold wpList;rw [hwD];simp only [aM];refine .inl ?_;unfold Oper.wp;have hrun:(execOp a2.eval oD).run P w2=.ok (.defer { target:=.fn (.func J) G,args:=#[] }) w2:=by
   simp only [execOp,hoD,resolve,X,Deferred.ofValue,az,aF,aB];simp
  rw [hrun,Oper.upon_defer,hdD];simp only [Act.put];unfold wpList;simp only [Exit.then];have C:Inv fn.ntmps ι0 ⟨w,[{ target:=.fn (.func J) G,args:=#[] }]⟩ I U { a2 with defers:={ target:=.fn (.func J) G,args:=#[] }::a2.defers } w2:=
   ⟨d.size,by rw [d.defers],d.tmps,d.mem,d.ext,d.new,d.fr,d.low,d.fz,d.gl⟩
  subst hcB;refine uu ?_ (pm hE acB _ _ z hLB p I ⟨w2,[{ target:=.fn (.func J) G,args:=#[] }]⟩ I _ w2 (C.inner C.defers));rintro e F w' ⟨ex,s',k,A,i,m⟩;split at m
  case h_2=>cases m
  rename_i O;simp only [aD,jq] at O;obtain ⟨o,N⟩:=O;obtain ⟨S,o1,o2,o3,o4⟩:=C.outer rfl i o N;have hI4:Inv fn.ntmps ι0 ⟨w,[{ target:=.fn (.func J) G,args:=#[] }]⟩ k { s' with lo:=U.lo,rb:=U.rb } F w':=
   ⟨i.size,i.defers,i.tmps,i.mem,o1,o2,by show Fr (roI ι0 s'.ro) w w';rw [o];exact o3,d.low,λb q Q hq=>by have:=o4 b q Q hq;simp only;omega,by show GL (roI ι0 s'.ro) w;rw [o];exact C.gl⟩
  have hcv:=VRs.mono S _ _ hv2;have j:∀(v:V) (x:Value) (u u':FrameMode),VR k v x->u≠.run->(settle u'=.returning)->
    ((u=.returning/\u'=.returning/\x=.nilIface)\/∃y,u=.panicking [{ v:=y,recovered:=false }]/\u'=.panicking [{ v:=y,recovered:=true }]/\x=y)->
    zP P EC LC n.ntmps B tr cap v { s' with lo:=U.lo,rb:=U.rb } (λs=>finK P fn.results.toList K .ret s)=some z->
    Leaves P fn F.tmps (λe w'=>∃(pan:Bool) (u:V) (s:St) (ι:Inj),K pan u s=some z/\(∀b q,ι0 b=some q->ι b=some q\/s.rb<=b)/\(∀b q,ι b=some (some q)->(∃q',ι0 b=some (some q')/\q'.r=q.r)\/w.heap.size<=q.r)/\
     WR ι s.H s.nb w'/\(∀b q,ι b=some (some q)->q.fz=true->b<s.ro)/\Fr (roI ι0 s.ro) w w'/\RetR ι { val:=u,pan:=pan } e) F.defers u w':=by
   intro v x u u' hvx hur hset hu ha;rw [i.defers];refine leaves_cons hur (f:=J) (args:=G.toList.toArray) ?_ ?_
   ·have:=hEn G w';simpa [invoke] using this
   ·refine (N8 hEC hfC hbC hoR hgR hdR R hcC hLC ha hI4 hcv hvx hu).mono ?_;rintro e u'' w'' ⟨rfl,y,s3,ι3,rfl,h4,h5,h6⟩;obtain ⟨v,g1,Z⟩:=fin s3 ι3 F w'' h5 h4;simp only [hset];exact ⟨v,g1,Z⟩
  cases ex with
  | normal=>simp only [ExR] at A;subst A;exact j .ni .nilIface .returning .returning (by simp [VR]) (by simp) rfl (.inl ⟨rfl,rfl,rfl⟩) m
  | ret=>simp only [ExR] at A;subst A;exact j .ni .nilIface .returning .returning (by simp [VR]) (by simp) rfl (.inl ⟨rfl,rfl,rfl⟩) m
  | exit id=>cases m
  | pan v=>
   obtain ⟨x,rfl,hx⟩:=A;exact j v x (.panicking [{ v:=x,recovered:=false }]) (.panicking [{ v:=x,recovered:=true }]) hx (by simp) (by simp [settle]) (.inr ⟨x,rfl,rfl,rfl⟩) m
 ·rintro ex s ι e a w1 hne A i m;cases ex with
  | normal=>exact absurd rfl hne
  | exit id=>simp [finK] at m
  | ret=>
   simp only [ExR] at A;subst A;obtain ⟨v,g1,Z⟩:=fin s ι a w1 i m;show Leaves P fn a.tmps _ a.defers .returning w1;rw [i.defers];exact ⟨v,g1,Z⟩
  | pan v=>
   obtain ⟨x,rfl,hx⟩:=A;show Leaves P fn a.tmps _ a.defers (.panicking _) w1;rw [i.defers];exact ⟨true,v,s,ι,m,i.ext,i.new,i.mem,i.fz,i.fr,rfl,x,rfl,hx⟩
def qI:Nat->AC->List AC
 | n+1,.seq a b=>a::qI n b
 | _,_=>[]
def kK:Nat->AC->AC
 | n+1,.seq _ b=>kK n b
 | _,c=>c
theorem uS:∀(n:Nat) (c:AC),E7 (qI n c) (kK n c).code=c.code
 | 0,c=>by simp [qI,kK,E7]
 | n+1,.seq a b=>by simp [qI,kK,E7,uS n b,AC.code]
 | n+1,.skip | n+1,.ret | n+1,.exit _ | n+1,.cond _ _ _ | n+1,.block _ _ | n+1,.reg _ _ | n+1,.draw _ _ | n+1,.sub _ _ | n+1,.loop _ | n+1,.scope _ | n+1,.label _ | n+1,.bad _=>by
  simp [qI,kK,E7]
def Rj:AC->List Oper
 | .seq (.reg _ l) _=>l
 | _=>[]
def getO (l:List Oper) (i:Nat):Oper:=l.getD i default
theorem xU {n:Nat} {L:List Sub}:∀(k:Nat) (c:AC),jV P n L c->(∀x∈qI k c,jV P n L x)/\jV P n L (kK k c)
 | 0,c,h=>⟨by simp [qI],by simpa [kK] using h⟩
 | k+1,.seq a b,h=>by
  simp only [jV] at h;have:=xU k b h.2;exact ⟨λx hx=>by
   simp only [qI,cq] at hx;rcases hx with rfl | hx
   ·exact h.1
   ·exact this.1 x hx,by simpa [kK] using this.2⟩
 | k+1,.skip,h | k+1,.ret,h | k+1,.exit _,h | k+1,.cond _ _ _,h | k+1,.block _ _,h | k+1,.reg _ _,h | k+1,.draw _ _,h | k+1,.sub _ _,h | k+1,.loop _,h | k+1,.scope _,h | k+1,.label _,h | k+1,.bad _,h=>by
  exact ⟨by simp [qI],by simpa [kK] using h⟩
theorem K8 {α:Type} {E:List Ent} (G:∀x∈E,ge P x) {L:List Sub} {f:Nat} {fn:Func} {c:Code} {ac:AC} {k:Nat} {o1 oD:Oper} {g:Operand} {gid idD:Nat} {acB:AC} (H:P.funcs[f]?=some fn)
  (D:fn.body=some c) (t:ac.code=c) (i:kK k ac=.seq (.reg idD [o1,oD]) acB) (I:jV P fn.ntmps L ac) (q:o1.guard=none) (m:oD.guard=none)
  (A:oD.op=.defer ⟨.value g,#[],#[]⟩) (p:oD.dst=none)
  {EC:List Ent} (v:∀x∈EC,ge P x) {B:List Sub} {b:Func} {C:Code} {a:AC} {idR:Nat} {oR:Oper} {tr:Nat} (y:P.funcs[gid]?=some b)
  (n:b.body=some C) (u:a.code=C) (e:kK 0 a=.seq (.reg idR [oR]) (kK 1 a)) (r:oR.op=.call ⟨.builtin .recover,#[],#[]⟩) (l:oR.guard=none) (w:oR.dst=some tr) (d:b.results=#[])
  (s:jV P b.ntmps B a) (j:me P gid)
  {args:List V} {H0:List (Nat×Blk)} {nb0 ro rb:Nat} {K:Bool->V->St->Option α} {z:α} (F:Nat.ble args.length fn.ntmps=true)
  (h:UO P E L fn.ntmps (qI k ac) o1 g gid acB EC B b.ntmps (kK 1 a) tr fn.results.toList K ⟨tC args 0,H0,nb0,nb0,ro,rb⟩=some z):AK P f args H0 nb0 ro K z:=by
 have hs:=xU k ac I;have o:jV P fn.ntmps L acB:=by
  have:=hs.2;rw [i] at this;simp only [jV] at this;exact this.2
 refine QR G H D rfl (As:=qI k ac) (o1:=o1) (oD:=oD) (idD:=idD) (acB:=acB) ?_ hs.1 o q m A p v y (idR:=idR) (oR:=oR) (crest:=(kK 1 a).code) ?_ r l w d rfl (xU 1 a s).2 j F h
 ·rw [<-t,<-uS k ac,i];rfl
 ·rw [n,<-u,<-uS 0 a,e];rfl
end Go.Abs
