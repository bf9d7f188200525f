
/- Functions that defer a closure: what they come to.
   Conditions: none; generic over the program. -/
import Derived.Test.YtfiponokimbeeaaGreatDoorAbsP
import Derived.Recover
set_option linter.unusedSimpArgs false
set_option linter.unusedVariables false
namespace Go.Abs
variable {P:Program}
def runL {α:Type} (P:Program) (E:List Ent) (L:List Sub) (n:Nat) (k:Ex->St->Option α):List AC->St->Option α
 | [],s=>k .normal s
 | a::l,s=>run P E L n a s λex s=>match ex with
  | .normal=>runL P E L n k l s
  | .exit id=>k (.exit id) s
  | .ret=>k .ret s
  | .pan v=>k (.pan v) s
def za {α:Type} (P:Program) (E:List Ent) (L:List Sub) (c:Nat) (b:AC) (tr:Nat) (cap:List V) (v:V) (s:St) (k:St->Option α):Option α:=
 match Nat.blt tr c&&(Nat.ble cap.length c&&Nat.ble cap.length tr) with
 | true=>run P E L c b ⟨(tr,some v)::sD cap 0,s.H,s.nb,s.nb,s.ro,s.nb⟩ λex a=>match Nat.beq a.ro s.ro&&Nat.beq a.rb s.nb with
  | true=>match ex with
   | .normal=>k { s with H:=a.H,nb:=a.nb }
   | .ret=>k { s with H:=a.H,nb:=a.nb }
   | .exit _=>none
   | .pan _=>none
  | false=>none
 | false=>none
def RD {α:Type} (P:Program) (E:List Ent) (L:List Sub) (n:Nat) (As:List AC) (o1:Oper) (g:Operand) (gid:Nat) (acB:AC) (EC:List Ent) (c:List Sub) (d:Nat) (a:AC) (tr:Nat)
  (b:List ResultVar) (K:Bool->V->St->Option α) (s:St):Option α:=
 runL P E L n (λex s=>match ex with
  | .normal=>MC P E n s.nb o1 s (λs=>match opd s.T g with
   | some (.fn f cap)=>match Nat.beq f gid&&Nat.blt f 1000000 with
    | true=>run P E L n acB { s with lo:=s.nb,rb:=s.nb } λex s'=>match Nat.beq s'.ro s.ro&&Nat.beq s'.rb s.nb with
     | true=>match ex with
      | .normal=>za P EC c d a tr cap .ni { s' with lo:=s.lo,rb:=s.rb } λs=>finK P b K .ret s
      | .ret=>za P EC c d a tr cap .ni { s' with lo:=s.lo,rb:=s.rb } λs=>finK P b K .ret s
      | .pan v=>za P EC c d a tr cap v { s' with lo:=s.lo,rb:=s.rb } λs=>finK P b K .ret s
      | .exit _=>none
     | false=>none
    | false=>none
   | _=>none) (λ_ _=>none)
  | .exit id=>finK P b K (.exit id) s
  | .ret=>finK P b K .ret s
  | .pan v=>finK P b K (.pan v) s) As s
def EE:List AC->Code->Code
 | [],c=>c
 | a::l,c=>.seq a.code (EE l c)
theorem L6 {α:Type} {E:List Ent} (p:∀x∈E,fF P x) {L:List Sub} {n:Nat} {k:Ex->St->Option α} {z:α} {c:Code} {ι0:Inj} {w0:Base} {Q:Exit->Act->World->Prop}
  (o:∀s ι a w,Inv n ι0 w0 ι s a w->k .normal s=some z->c.wp P Q a w)
  (g:∀ex s ι e a w,ex≠.normal->ExR ι ex e->Inv n ι0 w0 ι s a w->k ex s=some z->Q e a w):∀(As:List AC) (s:St) (ι:Inj) (a:Act) (w:World),(∀x∈As,jN P n L x)->
   Inv n ι0 w0 ι s a w->runL P E L n k As s=some z->(EE As c).wp P Q a w
 | [],s,ι,a,w,_,m,h=>o s ι a w m h
 | x::l,s,ι,a,w,hs,m,h=>by
  simp only [runL] at h;refine wp_seq (wp_mono (oP p x s _ z (hs x (by simp)) h ι0 w0 ι a w m) ?_);rintro e i w' ⟨ex,s',b,d,j,f⟩;cases ex with
  | normal=>simp only [ExR] at d;subst d;exact L6 p o g l s' b i w' (λy hy=>hs y (gy _ hy)) j f
  | exit id=>simp only [ExR] at d;subst d;exact g (.exit id) s' b _ i w' (by simp) rfl j f
  | ret=>simp only [ExR] at d;subst d;exact g .ret s' b _ i w' (by simp) rfl j f
  | pan v=>obtain ⟨y,rfl,hx⟩:=d;exact g (.pan v) s' b _ i w' (by simp) ⟨y,rfl,hx⟩ j f
theorem Inv.inner {n:Nat} {ι0 ι:Inj} {w0:Base} {s:St} {a:Act} {w:World} {D:List Deferred} (C:Inv n ι0 w0 ι s a w) (F:a.defers=D):Inv n ι ⟨w,D⟩ ι { s with lo:=s.nb,rb:=s.nb } a w:=
 ⟨C.size,F,C.tmps,C.mem,λ_ _ h=>.inl h,λ_ q h=>.inl ⟨q,h,rfl⟩,Fr.refl _ _,λb r h=>C.mem.low b r h,C.fz,C.glHere λ_ _ E=>⟨pK E,Jm E⟩⟩
theorem Inv.outer {n n':Nat} {ι0 ι E:Inj} {w0 w1:Base} {s s':St} {a a':Act} {w w':World} (O:Inv n ι0 w0 ι s a w) (hw:w1.w=w) (F:Inv n' ι w1 E s' a' w') (X:s'.ro=s.ro) (hrb:s'.rb=s.nb):
  (∀b q,ι b=some q->E b=some q)/\(∀b q,ι0 b=some q->E b=some q\/s.rb<=b)/\(∀b q,E b=some (some q)->(∃Q,ι0 b=some (some Q)/\Q.r=q.r)\/w0.w.heap.size<=q.r)/\Fr (roI ι0 s.ro) w0.w w'/\
   (∀b q,E b=some (some q)->q.fz=true->b<s.ro):=by
 subst hw;have G:∀b q,ι b=some q->E b=some q:=by
  intro b q C;rcases F.ext b q C with h | h
  ·exact h
  ·have:=O.mem.low b q C;omega
 refine ⟨G,λb q C=>(O.ext b q C).imp (G b q) id,λb q C=>?_,O.fr.trans (λb q C=>?_) F.fr,λb q C hq=>by have:=F.fz b q C hq;omega⟩
 ·rcases F.new b q C with ⟨Q,Y,U⟩ | h
  ·rw [<-U];exact O.new b Q Y
  ·exact .inr (ri O.fr.size h)
 ·have W:=pK C;have Z:s.ro<=b:=by
   rw [X] at C;unfold roI at C;cases J:Nat.blt b s.ro with
   | true=>simp [J] at C
   | false=>
    rcases aH b s.ro with h | h
    ·rw [show Nat.blt b s.ro=true from cZ h] at J;cases J
    ·exact h
  exact (O.new b q W).imp (λ⟨Q,h,U⟩=>⟨Q,DU h Z,U⟩) id
theorem ME {α:Type} {E:List Ent} (hE:∀x∈E,fF P x) {L:List Sub} {g:Nat} {fn:Func} {m:AC} {idR:Nat} {oR:Oper} {tr:Nat} {crest:Code} (hf:P.funcs[g]?=some fn)
  (hb:fn.body=some (.seq (.region idR #[oR] false) crest)) (hoR:oR.op=.call ⟨.builtin .recover,#[],#[]⟩) (hgR:oR.guard=none) (hdR:oR.dst=some tr) (W:fn.results=#[]) (hc:m.code=crest)
  (hL:jN P fn.ntmps L m) {cap:List V} {v:V} {s:St} {k:St->Option α} {z:α} (h:za P E L fn.ntmps m tr cap v s k=some z)
  {n:Nat} {ι0 ι:Inj} {w0:Base} {a:Act} {w:World} (j:Inv n ι0 w0 ι s a w) {i:List Value} (B:VRs ι cap i) {x:Value} (hx:VR ι v x) {u p:FrameMode}
  (hu:(u=.returning/\p=.returning/\x=.nilIface)\/∃y,u=.panicking [{ v:=y,recovered:=false }]/\p=.panicking [{ v:=y,recovered:=true }]/\x=y):
  CallsD P g i.toArray u w λe J w'=>J=p/\∃(y:Value) (s':St) (K:Inj),e=.returned y/\k s'=some z/\Inv n ι0 w0 K s' a w'/\s'.T=s.T:=by
 unfold za at h;split at h
 case h_2=>cases h
 rename_i f;simp only [az] at f;have htr:tr<fn.ntmps:=aI f.1;have hcl:cap.length<=fn.ntmps:=aI f.2.1;have hct:cap.length<=tr:=aI f.2.2;have hlen:i.length=cap.length:=B.length;refine callsD_of_wpS hf hb λd Y G=>?_;have X:∀a:Act,(execOp a.eval oR).run P w=.ok .recover w:=by
  intro a;simp [execOp,hoR,resolve,invoke,builtin]
 have A:∀I:List Frame,I={ d with mode:=p }::Y->
   crest.wpS P (bodyPostS P fn d Y λe J w'=>J=p/\∃(y:Value) (s':St) (K:Inj),e=.returned y/\k s'=some z/\Inv n ι0 w0 K s' a w'/\s'.T=s.T)
    (({ tmps:=i.toArray++Array.replicate (fn.ntmps - i.toArray.size) undef,defers:=[] }:Act).put oR.dst x) I w:=by
  intro I hfs;have hI2:Inv fn.ntmps ι ⟨w,[]⟩ ι ⟨(tr,some v)::sD cap 0,s.H,s.nb,s.nb,s.ro,s.nb⟩ (({ tmps:=i.toArray++Array.replicate (fn.ntmps - i.toArray.size) undef,defers:=[] }:Act).put oR.dst x) w:=by
   refine ⟨by rw [mX];simp;omega,by rw [jE],?_,j.mem,λ_ _ h=>.inl h,λ_ q h=>.inl ⟨q,h,rfl⟩,Fr.refl _ _,λb r h=>j.mem.low b r h,j.fz,j.glHere λ_ _ hb=>⟨pK hb,Jm hb⟩⟩;rw [hdR];refine TR.put (λt u U=>?_) (by simp;omega) (λu hu=>by cases hu;exact hx);rw [rV,ae (f7 _)] at U;simp only [sY] at U;cases hl:cap[t]? with
   | none=>simp [hl] at U
   | some u=>
    simp only [hl,eX,au] at U;subst U;obtain ⟨x,M,N⟩:=B.get hl;have h1':i.toArray[t]?=some x:=by simpa using M
    have hlt:t<i.toArray.size:=by
     rcases aH t i.toArray.size with h' | h'
     ·exact h'
     ·rw [wR h'] at h1';cases h1'
    exact ⟨x,by rw [SR hlt];exact h1',N⟩
  subst hc hfs;refine wpS_of_wp (tC ?_ (oP hE m _ _ z hL h ι ⟨w,[]⟩ ι _ w hI2));rintro e a' w' ⟨ex,s2,D,M,N,O⟩;split at O
  case h_2=>cases O
  rename_i S;simp only [az,jt] at S;obtain ⟨R,Z⟩:=S;obtain ⟨Q,o1,o2,o3,o4⟩:=j.outer rfl N R Z;have o:Inv n ι0 w0 D { s with H:=s2.H,nb:=s2.nb } a w':=⟨j.size,j.defers,j.tmps.mono Q,N.mem,o1,o2,o3,j.low,o4,j.gl⟩;have c:(results fn a'.tmps).run P w'=.ok (.tuple #[]) w':=by
   rw [yX,W];simp [aD]
  cases ex with
  | normal=>simp only [ExR] at M;subst M;exact ⟨N.defers,p,rfl,_,c,rfl,_,_,D,rfl,O,o,rfl⟩
  | ret=>simp only [ExR] at M;subst M;exact ⟨N.defers,p,rfl,_,c,rfl,_,_,D,rfl,O,o,rfl⟩
  | exit id=>cases O
  | pan v=>cases O
 refine wpS_seq (wpS_region ?_);show wpOpsS P #[oR] _ [0] _ _ w;simp only [wpOpsS];have h0:(#[oR]:Array Oper)[0]?=some oR:=rfl;rw [h0];simp only;have hw:∀y,Region.wanted oR y=true:=λy=>by simp [Region.wanted,hgR]
 rw [hw];simp only [aJ,X];rcases hu with ⟨l,C,F⟩ | ⟨y,l,C,F⟩
 ·subst F;have:recoverD (d::Y)=none:=by simp [recoverD,G,l]
  rw [this];exact A _ (by rw [C,<-l,<-G])
 ·subst F;have:recoverD (d::Y)=some (x,{ d with mode:=p }::Y):=by simp [recoverD,G,l,C]
  rw [this];exact A _ rfl
theorem OC {α:Type} {E:List Ent} (hE:∀x∈E,fF P x) {L:List Sub} {f:Nat} {fn:Func} {c:Code} {As:List AC} {o1 oD:Oper} {g:Operand} {gid idD:Nat} {acB:AC} {cB:Code} (hf:P.funcs[f]?=some fn)
  (Q:fn.body=some c) (hcB:acB.code=cB) (hc:EE As (.seq (.region idD #[o1,oD] false) cB)=c) (hLA:∀x∈As,jN P fn.ntmps L x) (hLB:jN P fn.ntmps L acB) (hg1:o1.guard=none) (hgD:oD.guard=none)
  (hoD:oD.op=.defer ⟨.value g,#[],#[]⟩) (hdD:oD.dst=none)
  {EC:List Ent} (hEC:∀x∈EC,fF P x) {LC:List Sub} {n:Func} {F:AC} {idR:Nat} {oR:Oper} {tr:Nat} {crest:Code} (hfC:P.funcs[gid]?=some n)
  (hbC:n.body=some (.seq (.region idR #[oR] false) crest)) (hoR:oR.op=.call ⟨.builtin .recover,#[],#[]⟩) (hgR:oR.guard=none) (hdR:oR.dst=some tr) (hres:n.results=#[]) (hcC:F.code=crest)
  (hLC:jN P n.ntmps LC F) (hEn:kT P gid)
  {args:List V} {H0:List (Nat×Blk)} {nb0 ro rb:Nat} {K:Bool->V->St->Option α} {z:α} (hn:Nat.ble args.length fn.ntmps=true)
  (h:RD P E L fn.ntmps As o1 g gid acB EC LC n.ntmps F tr fn.results.toList K ⟨sD args 0,H0,nb0,nb0,ro,rb⟩=some z):Bl P f args H0 nb0 ro K z:=by
 intro ι0 w M hW hfz hgl hx;have hlen:M.size=args.length:=by simpa using hx.length
 have hn:=aI hn;refine calls_of_wp_defers hf Q ?_;rw [<-hc];have hI:Inv fn.ntmps ι0 ⟨w,[]⟩ ι0 ⟨sD args 0,H0,nb0,nb0,ro,rb⟩ { tmps:=M++Array.replicate (fn.ntmps - M.size) undef,defers:=[] } w:=by
  refine ⟨by simp;omega,rfl,λt v hv=>?_,hW,λ_ _ h=>.inl h,λ_ q h=>.inl ⟨q,h,rfl⟩,Fr.refl _ _,λb r h=>hW.low b r h,hfz,hgl⟩;rw [rV,ae (f7 _)] at hv;simp only [sY] at hv;cases hl:args[t]? with
  | none=>simp [hl] at hv
  | some u=>
   simp only [hl,eX,au] at hv;subst hv;obtain ⟨x,A,i⟩:=hx.get hl;have h1':M[t]?=some x:=by simpa using A
   have hlt:t<M.size:=by
    rcases aH t M.size with h' | h'
    ·exact h'
    ·rw [wR h'] at h1';cases h1'
   exact ⟨x,by rw [SR hlt];exact h1',i⟩
 have O:∀{D:List Deferred} (s':St) (j:Inj) (B:Act) (w':World),Inv fn.ntmps ι0 ⟨w,D⟩ j s' B w'->finK P fn.results.toList K .ret s'=some z->
   ∃v,(results fn B.tmps).run P w'=.ok v w'/\∃(pan:Bool) (u:V) (s:St) (ι:Inj),K pan u s=some z/\(∀b q,ι0 b=some q->ι b=some q\/s.rb<=b)/\(∀b q,ι b=some (some q)->(∃q',ι0 b=some (some q')/\q'.r=q.r)\/w.heap.size<=q.r)/\
   WR ι s.H s.nb w'/\(∀b q,ι b=some (some q)->q.fz=true->b<s.ro)/\Fr (roI ι0 s.ro) w w'/\RetR ι { val:=u,pan:=pan } (.returned v):=by
  intro D s' j B w' i m;simp only [finK] at m;obtain ⟨v,x,g1,S,g3⟩:=zj (fn:=fn) (c:=λv=>K false v s') i m;exact ⟨x,g3,false,v,s',j,g1,i.ext,i.new,i.mem,i.fz,i.fr,rfl,S⟩
 refine L6 hE ?_ ?_ As _ ι0 _ w hLA hI h
 ·
  intro s ι a w1 hI1 hk;simp only at hk;refine wp_seq (wp_region_lit (l:=[o1,oD]) ?_);unfold wpList;have hw1:∀y,Region.wanted o1 y=true:=λy=>by simp [Region.wanted,hg1]
  have hwD:∀y,Region.wanted oD y=true:=λy=>by simp [Region.wanted,hgD]
  rw [hw1];simp only [aJ];refine .inl (BI hE hI1 (λb Q=>hI1.fresh b Q) (aY _) hk (λX G a2 T p d=>?_) (λv s' j x B w' hk=>by cases hk));split at p
  case h_2=>cases p
  rename_i J cap hgo;split at p
  case h_2=>cases p
  rename_i hff;simp only [az,jt] at hff;obtain ⟨N,hff2⟩:=hff;subst N;obtain ⟨I,U,hv2⟩:=QI d.tmps hgo;rw [Fp hff2] at U;unfold wpList;rw [hwD];simp only [aJ];refine .inl ?_;unfold Oper.wp;have R:(execOp a2.eval oD).run P T=.ok (.defer { target:=.fn (.func J) I,args:=#[] }) T:=by
   simp only [execOp,hoD,resolve,U,Deferred.ofValue,aw,aD,ay];simp
  rw [R,Oper.upon_defer,hdD];simp only [Act.put];unfold wpList;simp only [Exit.then];have C:Inv fn.ntmps ι0 ⟨w,[{ target:=.fn (.func J) I,args:=#[] }]⟩ G X { a2 with defers:={ target:=.fn (.func J) I,args:=#[] }::a2.defers } T:=
   ⟨d.size,by rw [d.defers],d.tmps,d.mem,d.ext,d.new,d.fr,d.low,d.fz,d.gl⟩
  subst hcB;refine tC ?_ (oP hE acB _ _ z hLB p G ⟨T,[{ target:=.fn (.func J) I,args:=#[] }]⟩ G _ T (C.inner C.defers));rintro e B w' ⟨ex,s',j,A,i,m⟩;split at m
  case h_2=>cases m
  rename_i Z;simp only [az,jt] at Z;obtain ⟨o,W⟩:=Z;obtain ⟨Y,o1,o2,o3,o4⟩:=C.outer rfl i o W;have hI4:Inv fn.ntmps ι0 ⟨w,[{ target:=.fn (.func J) I,args:=#[] }]⟩ j { s' with lo:=X.lo,rb:=X.rb } B w':=
   ⟨i.size,i.defers,i.tmps,i.mem,o1,o2,by show Fr (roI ι0 s'.ro) w w';rw [o];exact o3,d.low,λb q Q hq=>by have:=o4 b q Q hq;simp only;omega,by show GL (roI ι0 s'.ro) w;rw [o];exact C.gl⟩
  have hcv:=VRs.mono Y _ _ hv2;have k:∀(v:V) (x:Value) (u u':FrameMode),VR j v x->u≠.run->(settle u'=.returning)->
    ((u=.returning/\u'=.returning/\x=.nilIface)\/∃y,u=.panicking [{ v:=y,recovered:=false }]/\u'=.panicking [{ v:=y,recovered:=true }]/\x=y)->
    za P EC LC n.ntmps F tr cap v { s' with lo:=X.lo,rb:=X.rb } (λs=>finK P fn.results.toList K .ret s)=some z->
    Leaves P fn B.tmps (λe w'=>∃(pan:Bool) (u:V) (s:St) (ι:Inj),K pan u s=some z/\(∀b q,ι0 b=some q->ι b=some q\/s.rb<=b)/\(∀b q,ι b=some (some q)->(∃q',ι0 b=some (some q')/\q'.r=q.r)\/w.heap.size<=q.r)/\
     WR ι s.H s.nb w'/\(∀b q,ι b=some (some q)->q.fz=true->b<s.ro)/\Fr (roI ι0 s.ro) w w'/\RetR ι { val:=u,pan:=pan } e) B.defers u w':=by
   intro v x u u' hvx hur hset hu ha;rw [i.defers];refine leaves_cons hur (f:=J) (args:=I.toList.toArray) ?_ ?_
   ·have:=hEn I w';simpa [invoke] using this
   ·refine (ME hEC hfC hbC hoR hgR hdR hres hcC hLC ha hI4 hcv hvx hu).mono ?_;rintro e u'' w'' ⟨rfl,y,s3,ι3,rfl,h4,h5,h6⟩;obtain ⟨v,g1,S⟩:=O s3 ι3 B w'' h5 h4;simp only [hset];exact ⟨v,g1,S⟩
  cases ex with
  | normal=>simp only [ExR] at A;subst A;exact k .ni .nilIface .returning .returning (by simp [VR]) (by simp) rfl (.inl ⟨rfl,rfl,rfl⟩) m
  | ret=>simp only [ExR] at A;subst A;exact k .ni .nilIface .returning .returning (by simp [VR]) (by simp) rfl (.inl ⟨rfl,rfl,rfl⟩) m
  | exit id=>cases m
  | pan v=>
   obtain ⟨x,rfl,hx⟩:=A;exact k v x (.panicking [{ v:=x,recovered:=false }]) (.panicking [{ v:=x,recovered:=true }]) hx (by simp) (by simp [settle]) (.inr ⟨x,rfl,rfl,rfl⟩) m
 ·rintro ex s ι e a w1 hne A i m;cases ex with
  | normal=>exact absurd rfl hne
  | exit id=>simp [finK] at m
  | ret=>
   simp only [ExR] at A;subst A;obtain ⟨v,g1,S⟩:=O s ι a w1 i m;show Leaves P fn a.tmps _ a.defers .returning w1;rw [i.defers];exact ⟨v,g1,S⟩
  | pan v=>
   obtain ⟨x,rfl,hx⟩:=A;show Leaves P fn a.tmps _ a.defers (.panicking _) w1;rw [i.defers];exact ⟨true,v,s,ι,m,i.ext,i.new,i.mem,i.fz,i.fr,rfl,x,rfl,hx⟩
def qh:Nat->AC->List AC
 | n+1,.seq a b=>a::qh n b
 | _,_=>[]
def kD:Nat->AC->AC
 | n+1,.seq _ b=>kD n b
 | _,c=>c
theorem uH:∀(n:Nat) (c:AC),EE (qh n c) (kD n c).code=c.code
 | 0,c=>by simp [qh,kD,EE]
 | n+1,.seq a b=>by simp [qh,kD,EE,uH n b,AC.code]
 | n+1,.skip | n+1,.ret | n+1,.exit _ | n+1,.cond _ _ _ | n+1,.block _ _ | n+1,.reg _ _ | n+1,.draw _ _ | n+1,.sub _ _ | n+1,.loop _ | n+1,.scope _ | n+1,.label _ | n+1,.bad _=>by
  simp [qh,kD,EE]
def QT:AC->List Oper
 | .seq (.reg _ l) _=>l
 | _=>[]
def getO (l:List Oper) (i:Nat):Oper:=l.getD i default
theorem xB {n:Nat} {L:List Sub}:∀(k:Nat) (c:AC),jN P n L c->(∀x∈qh k c,jN P n L x)/\jN P n L (kD k c)
 | 0,c,h=>⟨by simp [qh],by simpa [kD] using h⟩
 | k+1,.seq a b,h=>by
  simp only [jN] at h;have:=xB k b h.2;exact ⟨λx hx=>by
   simp only [qh,dr] at hx;rcases hx with rfl | hx
   ·exact h.1
   ·exact this.1 x hx,by simpa [kD] using this.2⟩
 | k+1,.skip,h | k+1,.ret,h | k+1,.exit _,h | k+1,.cond _ _ _,h | k+1,.block _ _,h | k+1,.reg _ _,h | k+1,.draw _ _,h | k+1,.sub _ _,h | k+1,.loop _,h | k+1,.scope _,h | k+1,.label _,h | k+1,.bad _,h=>by
  exact ⟨by simp [qh],by simpa [kD] using h⟩
theorem Ky {α:Type} {E:List Ent} (F:∀x∈E,fF P x) {L:List Sub} {f:Nat} {fn:Func} {c:Code} {ac:AC} {k:Nat} {o1 oD:Oper} {g:Operand} {gid idD:Nat} {acB:AC} (H:P.funcs[f]?=some fn)
  (G:fn.body=some c) (s:ac.code=c) (i:kD k ac=.seq (.reg idD [o1,oD]) acB) (D:jN P fn.ntmps L ac) (l:o1.guard=none) (A:oD.guard=none)
  (v:oD.op=.defer ⟨.value g,#[],#[]⟩) (n:oD.dst=none)
  {EC:List Ent} (j:∀x∈EC,fF P x) {B:List Sub} {b:Func} {C:Code} {a:AC} {idR:Nat} {oR:Oper} {tr:Nat} (t:P.funcs[gid]?=some b)
  (q:b.body=some C) (o:a.code=C) (e:kD 0 a=.seq (.reg idR [oR]) (kD 1 a)) (u:oR.op=.call ⟨.builtin .recover,#[],#[]⟩) (y:oR.guard=none) (w:oR.dst=some tr) (d:b.results=#[])
  (r:jN P b.ntmps B a) (p:kT P gid)
  {args:List V} {H0:List (Nat×Blk)} {nb0 ro rb:Nat} {K:Bool->V->St->Option α} {z:α} (I:Nat.ble args.length fn.ntmps=true)
  (h:RD P E L fn.ntmps (qh k ac) o1 g gid acB EC B b.ntmps (kD 1 a) tr fn.results.toList K ⟨sD args 0,H0,nb0,nb0,ro,rb⟩=some z):Bl P f args H0 nb0 ro K z:=by
 have hs:=xB k ac D;have m:jN P fn.ntmps L acB:=by
  have:=hs.2;rw [i] at this;simp only [jN] at this;exact this.2
 refine OC F H G rfl (As:=qh k ac) (o1:=o1) (oD:=oD) (idD:=idD) (acB:=acB) ?_ hs.1 m l A v n j t (idR:=idR) (oR:=oR) (crest:=(kD 1 a).code) ?_ u y w d rfl (xB 1 a r).2 p I h
 ·rw [<-s,<-uH k ac,i];rfl
 ·rw [q,<-o,<-uH 0 a,e];rfl
end Go.Abs
