
/- Functions that defer a closure: what they come to.
   Conditions: none; generic over the program. -/
import Derived.Test.YthemneooekobkaaGreatDoorAbsP
import Derived.Recover
set_option linter.unusedSimpArgs false
set_option linter.unusedVariables false
namespace Go.Abs
variable {P:Program}
def runL {α:Type} (P:Program) (E:List Ent) (L:List Sub) (n:Nat) (k:Ex->St->Option α):List AC->St->Option α
 | [],s=>k .normal s
 | a::l,s=>run P E L n a s λex s=>match ex with
  | .normal=>runL P E L n k l s
  | .exit id=>k (.exit id) s
  | .ret=>k .ret s
  | .pan v=>k (.pan v) s
def wy {α:Type} (P:Program) (E:List Ent) (L:List Sub) (c:Nat) (b:AC) (tr:Nat) (cap:List V) (v:V) (s:St) (k:St->Option α):Option α:=
 match Nat.blt tr c&&(Nat.ble cap.length c&&Nat.ble cap.length tr) with
 | true=>run P E L c b ⟨(tr,some v)::qg cap 0,s.H,s.nb,s.nb,s.ro,s.nb⟩ λex a=>match Nat.beq a.ro s.ro&&Nat.beq a.rb s.nb with
  | true=>match ex with
   | .normal=>k { s with H:=a.H,nb:=a.nb }
   | .ret=>k { s with H:=a.H,nb:=a.nb }
   | .exit _=>none
   | .pan _=>none
  | false=>none
 | false=>none
def Oz {α:Type} (P:Program) (E:List Ent) (L:List Sub) (n:Nat) (As:List AC) (o1:Oper) (g:Operand) (gid:Nat) (acB:AC) (EC:List Ent) (d:List Sub) (c:Nat) (a:AC) (tr:Nat)
  (b:List ResultVar) (K:Bool->V->St->Option α) (s:St):Option α:=
 runL P E L n (λex s=>match ex with
  | .normal=>Ip P E n s.nb o1 s (λs=>match opd s.T g with
   | some (.fn f cap)=>match Nat.beq f gid&&Nat.blt f 1000000 with
    | true=>run P E L n acB { s with lo:=s.nb,rb:=s.nb } λex s'=>match Nat.beq s'.ro s.ro&&Nat.beq s'.rb s.nb with
     | true=>match ex with
      | .normal=>wy P EC d c a tr cap .ni { s' with lo:=s.lo,rb:=s.rb } λs=>finK P b K .ret s
      | .ret=>wy P EC d c a tr cap .ni { s' with lo:=s.lo,rb:=s.rb } λs=>finK P b K .ret s
      | .pan v=>wy P EC d c a tr cap v { s' with lo:=s.lo,rb:=s.rb } λs=>finK P b K .ret s
      | .exit _=>none
     | false=>none
    | false=>none
   | _=>none) (λ_ _=>none)
  | .exit id=>finK P b K (.exit id) s
  | .ret=>finK P b K .ret s
  | .pan v=>finK P b K (.pan v) s) As s
def CH:List AC->Code->Code
 | [],c=>c
 | a::l,c=>.seq a.code (CH l c)
theorem Jw {α:Type} {E:List Ent} (o:∀x∈E,fO P x) {L:List Sub} {n:Nat} {k:Ex->St->Option α} {z:α} {c:Code} {ι0:Inj} {w0:Base} {Q:Exit->Act->World->Prop}
  (p:∀s ι a w,Inv n ι0 w0 ι s a w->k .normal s=some z->c.wp P Q a w)
  (i:∀ex s ι e a w,ex≠.normal->ExR ι ex e->Inv n ι0 w0 ι s a w->k ex s=some z->Q e a w):∀(As:List AC) (s:St) (ι:Inj) (a:Act) (w:World),(∀x∈As,iJ P n L x)->
   Inv n ι0 w0 ι s a w->runL P E L n k As s=some z->(CH As c).wp P Q a w
 | [],s,ι,a,w,_,m,h=>p s ι a w m h
 | x::l,s,ι,a,w,q,m,h=>by
  simp only [runL] at h;refine wp_seq (wp_mono (mN o x s _ z (q x (by simp)) h ι0 w0 ι a w m) ?_);rintro e f w' ⟨ex,s',b,d,g,j⟩;cases ex with
  | normal=>simp only [ExR] at d;subst d;exact Jw o p i l s' b f w' (λy r=>q y (gk _ r)) g j
  | exit id=>simp only [ExR] at d;subst d;exact i (.exit id) s' b _ f w' (by simp) rfl g j
  | ret=>simp only [ExR] at d;subst d;exact i .ret s' b _ f w' (by simp) rfl g j
  | pan v=>obtain ⟨y,rfl,t⟩:=d;exact i (.pan v) s' b _ f w' (by simp) ⟨y,rfl,t⟩ g j
theorem Inv.inner {n:Nat} {ι0 ι:Inj} {w0:Base} {s:St} {a:Act} {w:World} {D:List Deferred} (C:Inv n ι0 w0 ι s a w) (F:a.defers=D):Inv n ι ⟨w,D⟩ ι { s with lo:=s.nb,rb:=s.nb } a w:=
 ⟨C.size,F,C.tmps,C.mem,λ_ _ h=>.inl h,λ_ q h=>.inl ⟨q,h,rfl⟩,Fr.refl _ _,λb r h=>C.mem.low b r h,C.fz,C.glHere λ_ _ E=>⟨nv E,GQ E⟩⟩
theorem Inv.outer {n n':Nat} {ι0 ι C:Inj} {w0 Z:Base} {s s':St} {a a':Act} {w w':World} (K:Inv n ι0 w0 ι s a w) (hw:Z.w=w) (F:Inv n' ι Z C s' a' w') (Q:s'.ro=s.ro) (hrb:s'.rb=s.nb):
  (∀b q,ι b=some q->C b=some q)/\(∀b q,ι0 b=some q->C b=some q\/s.rb<=b)/\(∀b q,C b=some (some q)->(∃O,ι0 b=some (some O)/\O.r=q.r)\/w0.w.heap.size<=q.r)/\Fr (roI ι0 s.ro) w0.w w'/\
   (∀b q,C b=some (some q)->q.fz=true->b<s.ro):=by
 subst hw;have G:∀b q,ι b=some q->C b=some q:=by
  intro b q E;rcases F.ext b q E with h | h
  ·exact h
  ·have:=K.mem.low b q E;omega
 refine ⟨G,λb q E=>(K.ext b q E).imp (G b q) id,λb q E=>?_,K.fr.trans (λb q E=>?_) F.fr,λb q E hq=>by have:=F.fz b q E hq;omega⟩
 ·rcases F.new b q E with ⟨O,W,U⟩ | h
  ·rw [<-U];exact K.new b O W
  ·exact .inr (oQ K.fr.size h)
 ·have Y:=nv E;have X:s.ro<=b:=by
   rw [Q] at E;unfold roI at E;cases J:Nat.blt b s.ro with
   | true=>simp [J] at E
   | false=>
    rcases aF b s.ro with h | h
    ·rw [show Nat.blt b s.ro=true from dn h] at J;cases J
    ·exact h
  exact (K.new b q Y).imp (λ⟨O,h,U⟩=>⟨O,zZ h X,U⟩) id
theorem Jv {α:Type} {E:List Ent} (hE:∀x∈E,fO P x) {L:List Sub} {g:Nat} {fn:Func} {m:AC} {idR:Nat} {oR:Oper} {tr:Nat} {crest:Code} (hf:P.funcs[g]?=some fn)
  (hb:fn.body=some (.seq (.region idR #[oR] false) crest)) (hoR:oR.op=.call ⟨.builtin .recover,#[],#[]⟩) (hgR:oR.guard=none) (hdR:oR.dst=some tr) (S:fn.results=#[]) (hc:m.code=crest)
  (hL:iJ P fn.ntmps L m) {cap:List V} {v:V} {s:St} {k:St->Option α} {z:α} (h:wy P E L fn.ntmps m tr cap v s k=some z)
  {n:Nat} {ι0 ι:Inj} {w0:Base} {a:Act} {w:World} (j:Inv n ι0 w0 ι s a w) {i:List Value} (o:VRs ι cap i) {x:Value} (hx:VR ι v x) {u A:FrameMode}
  (hu:(u=.returning/\A=.returning/\x=.nilIface)\/∃y,u=.panicking [{ v:=y,recovered:=false }]/\A=.panicking [{ v:=y,recovered:=true }]/\x=y):
  CallsD P g i.toArray u w λe K w'=>K=A/\∃(y:Value) (s':St) (F:Inj),e=.returned y/\k s'=some z/\Inv n ι0 w0 F s' a w'/\s'.T=s.T:=by
 unfold wy at h;split at h
 case h_2=>cases h
 rename_i f;simp only [aA] at f;have htr:tr<fn.ntmps:=aH f.1;have hcl:cap.length<=fn.ntmps:=aH f.2.1;have hct:cap.length<=tr:=aH f.2.2;have hlen:i.length=cap.length:=o.length;refine callsD_of_wpS hf hb λd R D=>?_;have Y:∀a:Act,(execOp a.eval oR).run P w=.ok .recover w:=by
  intro a;simp [execOp,hoR,resolve,invoke,builtin]
 have p:∀C:List Frame,C={ d with mode:=A }::R->
   crest.wpS P (bodyPostS P fn d R λe K w'=>K=A/\∃(y:Value) (s':St) (F:Inj),e=.returned y/\k s'=some z/\Inv n ι0 w0 F s' a w'/\s'.T=s.T)
    (({ tmps:=i.toArray++Array.replicate (fn.ntmps - i.toArray.size) undef,defers:=[] }:Act).put oR.dst x) C w:=by
  intro C hfs;have hI2:Inv fn.ntmps ι ⟨w,[]⟩ ι ⟨(tr,some v)::qg cap 0,s.H,s.nb,s.nb,s.ro,s.nb⟩ (({ tmps:=i.toArray++Array.replicate (fn.ntmps - i.toArray.size) undef,defers:=[] }:Act).put oR.dst x) w:=by
   refine ⟨by rw [kZ];simp;omega,by rw [iv],?_,j.mem,λ_ _ h=>.inl h,λ_ q h=>.inl ⟨q,h,rfl⟩,Fr.refl _ _,λb r h=>j.mem.low b r h,j.fz,j.glHere λ_ _ hb=>⟨nv hb,GQ hb⟩⟩;rw [hdR];refine TR.put (λt u W=>?_) (by simp;omega) (λu hu=>by cases hu;exact hx);rw [pf,ae (fB _)] at W;simp only [nA] at W;cases hl:cap[t]? with
   | none=>simp [hl] at W
   | some u=>
    simp only [hl,ew,aq] at W;subst W;obtain ⟨x,M,O⟩:=o.get hl;have h1':i.toArray[t]?=some x:=by simpa using M
    have hlt:t<i.toArray.size:=by
     rcases aF t i.toArray.size with h' | h'
     ·exact h'
     ·rw [tQ h'] at h1';cases h1'
    exact ⟨x,by rw [Pg hlt];exact h1',O⟩
  subst hc hfs;refine wpS_of_wp (rC ?_ (mN hE m _ _ z hL h ι ⟨w,[]⟩ ι _ w hI2));rintro e a' w' ⟨ex,s2,J,M,O,N⟩;split at N
  case h_2=>cases N
  rename_i Z;simp only [aA,ia] at Z;obtain ⟨U,Q⟩:=Z;obtain ⟨X,o1,o2,o3,o4⟩:=j.outer rfl O U Q;have B:Inv n ι0 w0 J { s with H:=s2.H,nb:=s2.nb } a w':=⟨j.size,j.defers,j.tmps.mono X,O.mem,o1,o2,o3,j.low,o4,j.gl⟩;have c:(results fn a'.tmps).run P w'=.ok (.tuple #[]) w':=by
   rw [xa,S];simp [aC]
  cases ex with
  | normal=>simp only [ExR] at M;subst M;exact ⟨O.defers,A,rfl,_,c,rfl,_,_,J,rfl,N,B,rfl⟩
  | ret=>simp only [ExR] at M;subst M;exact ⟨O.defers,A,rfl,_,c,rfl,_,_,J,rfl,N,B,rfl⟩
  | exit id=>cases N
  | pan v=>cases N
 refine wpS_seq (wpS_region ?_);show wpOpsS P #[oR] _ [0] _ _ w;simp only [wpOpsS];have h0:(#[oR]:Array Oper)[0]?=some oR:=rfl;rw [h0];simp only;have hw:∀y,Region.wanted oR y=true:=λy=>by simp [Region.wanted,hgR]
 rw [hw];simp only [aJ,Y];rcases hu with ⟨l,I,G⟩ | ⟨y,l,I,G⟩
 ·subst G;have:recoverD (d::R)=none:=by simp [recoverD,D,l]
  rw [this];exact p _ (by rw [I,<-l,<-D])
 ·subst G;have:recoverD (d::R)=some (x,{ d with mode:=A }::R):=by simp [recoverD,D,l,I]
  rw [this];exact p _ rfl
theorem LS {α:Type} {E:List Ent} (hE:∀x∈E,fO P x) {L:List Sub} {f:Nat} {fn:Func} {c:Code} {As:List AC} {o1 oD:Oper} {g:Operand} {gid idD:Nat} {acB:AC} {cB:Code} (hf:P.funcs[f]?=some fn)
  (Q:fn.body=some c) (hcB:acB.code=cB) (hc:CH As (.seq (.region idD #[o1,oD] false) cB)=c) (hLA:∀x∈As,iJ P fn.ntmps L x) (hLB:iJ P fn.ntmps L acB) (hg1:o1.guard=none) (hgD:oD.guard=none)
  (hoD:oD.op=.defer ⟨.value g,#[],#[]⟩) (hdD:oD.dst=none)
  {EC:List Ent} (hEC:∀x∈EC,fO P x) {LC:List Sub} {m:Func} {B:AC} {idR:Nat} {oR:Oper} {tr:Nat} {crest:Code} (hfC:P.funcs[gid]?=some m)
  (hbC:m.body=some (.seq (.region idR #[oR] false) crest)) (hoR:oR.op=.call ⟨.builtin .recover,#[],#[]⟩) (hgR:oR.guard=none) (hdR:oR.dst=some tr) (W:m.results=#[]) (hcC:B.code=crest)
  (hLC:iJ P m.ntmps LC B) (hEn:kG P gid)
  {args:List V} {H0:List (Nat×Blk)} {nb0 ro rb:Nat} {K:Bool->V->St->Option α} {z:α} (hn:Nat.ble args.length fn.ntmps=true)
  (h:Oz P E L fn.ntmps As o1 g gid acB EC LC m.ntmps B tr fn.results.toList K ⟨qg args 0,H0,nb0,nb0,ro,rb⟩=some z):za P f args H0 nb0 ro K z:=by
 intro ι0 w M hW hfz hgl N;have hlen:M.size=args.length:=by simpa using N.length
 have hn:=aH hn;refine calls_of_wp_defers hf Q ?_;rw [<-hc];have hI:Inv fn.ntmps ι0 ⟨w,[]⟩ ι0 ⟨qg args 0,H0,nb0,nb0,ro,rb⟩ { tmps:=M++Array.replicate (fn.ntmps - M.size) undef,defers:=[] } w:=by
  refine ⟨by simp;omega,rfl,λt v hv=>?_,hW,λ_ _ h=>.inl h,λ_ q h=>.inl ⟨q,h,rfl⟩,Fr.refl _ _,λb r h=>hW.low b r h,hfz,hgl⟩;rw [pf,ae (fB _)] at hv;simp only [nA] at hv;cases hl:args[t]? with
  | none=>simp [hl] at hv
  | some u=>
   simp only [hl,ew,aq] at hv;subst hv;obtain ⟨x,p,i⟩:=N.get hl;have h1':M[t]?=some x:=by simpa using p
   have hlt:t<M.size:=by
    rcases aF t M.size with h' | h'
    ·exact h'
    ·rw [tQ h'] at h1';cases h1'
   exact ⟨x,by rw [Pg hlt];exact h1',i⟩
 have fin:∀{D:List Deferred} (s':St) (j:Inj) (F:Act) (w':World),Inv fn.ntmps ι0 ⟨w,D⟩ j s' F w'->finK P fn.results.toList K .ret s'=some z->
   ∃v,(results fn F.tmps).run P w'=.ok v w'/\∃(pan:Bool) (u:V) (s:St) (ι:Inj),K pan u s=some z/\(∀b q,ι0 b=some q->ι b=some q\/s.rb<=b)/\(∀b q,ι b=some (some q)->(∃q',ι0 b=some (some q')/\q'.r=q.r)\/w.heap.size<=q.r)/\
   WR ι s.H s.nb w'/\(∀b q,ι b=some (some q)->q.fz=true->b<s.ro)/\Fr (roI ι0 s.ro) w w'/\RetR ι { val:=u,pan:=pan } (.returned v):=by
  intro D s' j F w' i n;simp only [finK] at n;obtain ⟨v,x,S,T,g3⟩:=wg (fn:=fn) (c:=λv=>K false v s') i n;exact ⟨x,g3,false,v,s',j,S,i.ext,i.new,i.mem,i.fz,i.fr,rfl,T⟩
 refine Jw hE ?_ ?_ As _ ι0 _ w hLA hI h
 ·
  intro s ι a w1 U hk;simp only at hk;refine wp_seq (wp_region_lit (l:=[o1,oD]) ?_);unfold wpList;have hw1:∀y,Region.wanted o1 y=true:=λy=>by simp [Region.wanted,hg1]
  have hwD:∀y,Region.wanted oD y=true:=λy=>by simp [Region.wanted,hgD]
  rw [hw1];simp only [aJ];refine .inl (yg hE U (λb Q=>U.fresh b Q) (aU _) hk (λs2 I a2 Z o d=>?_) (λv s' j x F w' hk=>by cases hk));split at o
  case h_2=>cases o
  rename_i J cap hgo;split at o
  case h_2=>cases o
  rename_i hff;simp only [aA,ia] at hff;obtain ⟨hff1,O⟩:=hff;subst hff1;obtain ⟨G,hv1,hv2⟩:=Nc d.tmps hgo;rw [CY O] at hv1;unfold wpList;rw [hwD];simp only [aJ];refine .inl ?_;unfold Oper.wp;have hrun:(execOp a2.eval oD).run P Z=.ok (.defer { target:=.fn (.func J) G,args:=#[] }) Z:=by
   simp only [execOp,hoD,resolve,hv1,Deferred.ofValue,ax,aC,az];simp
  rw [hrun,Oper.upon_defer,hdD];simp only [Act.put];unfold wpList;simp only [Exit.then];have C:Inv fn.ntmps ι0 ⟨w,[{ target:=.fn (.func J) G,args:=#[] }]⟩ I s2 { a2 with defers:={ target:=.fn (.func J) G,args:=#[] }::a2.defers } Z:=
   ⟨d.size,by rw [d.defers],d.tmps,d.mem,d.ext,d.new,d.fr,d.low,d.fz,d.gl⟩
  subst hcB;refine rC ?_ (mN hE acB _ _ z hLB o I ⟨Z,[{ target:=.fn (.func J) G,args:=#[] }]⟩ I _ Z (C.inner C.defers));rintro e F w' ⟨ex,s',j,p,i,n⟩;split at n
  case h_2=>cases n
  rename_i X;simp only [aA,ia] at X;obtain ⟨A,Y⟩:=X;obtain ⟨R,o1,o2,o3,o4⟩:=C.outer rfl i A Y;have hI4:Inv fn.ntmps ι0 ⟨w,[{ target:=.fn (.func J) G,args:=#[] }]⟩ j { s' with lo:=s2.lo,rb:=s2.rb } F w':=
   ⟨i.size,i.defers,i.tmps,i.mem,o1,o2,by show Fr (roI ι0 s'.ro) w w';rw [A];exact o3,d.low,λb q Q hq=>by have:=o4 b q Q hq;simp only;omega,by show GL (roI ι0 s'.ro) w;rw [A];exact C.gl⟩
  have hcv:=VRs.mono R _ _ hv2;have k:∀(v:V) (x:Value) (u u':FrameMode),VR j v x->u≠.run->(settle u'=.returning)->
    ((u=.returning/\u'=.returning/\x=.nilIface)\/∃y,u=.panicking [{ v:=y,recovered:=false }]/\u'=.panicking [{ v:=y,recovered:=true }]/\x=y)->
    wy P EC LC m.ntmps B tr cap v { s' with lo:=s2.lo,rb:=s2.rb } (λs=>finK P fn.results.toList K .ret s)=some z->
    Leaves P fn F.tmps (λe w'=>∃(pan:Bool) (u:V) (s:St) (ι:Inj),K pan u s=some z/\(∀b q,ι0 b=some q->ι b=some q\/s.rb<=b)/\(∀b q,ι b=some (some q)->(∃q',ι0 b=some (some q')/\q'.r=q.r)\/w.heap.size<=q.r)/\
     WR ι s.H s.nb w'/\(∀b q,ι b=some (some q)->q.fz=true->b<s.ro)/\Fr (roI ι0 s.ro) w w'/\RetR ι { val:=u,pan:=pan } e) F.defers u w':=by
   intro v x u u' hvx hur hset hu ha;rw [i.defers];refine leaves_cons hur (f:=J) (args:=G.toList.toArray) ?_ ?_
   ·have:=hEn G w';simpa [invoke] using this
   ·refine (Jv hEC hfC hbC hoR hgR hdR W hcC hLC ha hI4 hcv hvx hu).mono ?_;rintro e u'' w'' ⟨rfl,y,s3,ι3,rfl,h4,h5,h6⟩;obtain ⟨v,S,T⟩:=fin s3 ι3 F w'' h5 h4;simp only [hset];exact ⟨v,S,T⟩
  cases ex with
  | normal=>simp only [ExR] at p;subst p;exact k .ni .nilIface .returning .returning (by simp [VR]) (by simp) rfl (.inl ⟨rfl,rfl,rfl⟩) n
  | ret=>simp only [ExR] at p;subst p;exact k .ni .nilIface .returning .returning (by simp [VR]) (by simp) rfl (.inl ⟨rfl,rfl,rfl⟩) n
  | exit id=>cases n
  | pan v=>
   obtain ⟨x,rfl,N⟩:=p;exact k v x (.panicking [{ v:=x,recovered:=false }]) (.panicking [{ v:=x,recovered:=true }]) N (by simp) (by simp [settle]) (.inr ⟨x,rfl,rfl,rfl⟩) n
 ·rintro ex s ι e a w1 hne p i n;cases ex with
  | normal=>exact absurd rfl hne
  | exit id=>simp [finK] at n
  | ret=>
   simp only [ExR] at p;subst p;obtain ⟨v,S,T⟩:=fin s ι a w1 i n;show Leaves P fn a.tmps _ a.defers .returning w1;rw [i.defers];exact ⟨v,S,T⟩
  | pan v=>
   obtain ⟨x,rfl,N⟩:=p;show Leaves P fn a.tmps _ a.defers (.panicking _) w1;rw [i.defers];exact ⟨true,v,s,ι,n,i.ext,i.new,i.mem,i.fz,i.fr,rfl,x,rfl,N⟩
def nR:Nat->AC->List AC
 | n+1,.seq a b=>a::nR n b
 | _,_=>[]
def jm:Nat->AC->AC
 | n+1,.seq _ b=>jm n b
 | _,c=>c
theorem rU:∀(n:Nat) (c:AC),CH (nR n c) (jm n c).code=c.code
 | 0,c=>by simp [nR,jm,CH]
 | n+1,.seq a b=>by simp [nR,jm,CH,rU n b,AC.code]
 | n+1,.skip | n+1,.ret | n+1,.exit _ | n+1,.cond _ _ _ | n+1,.block _ _ | n+1,.reg _ _ | n+1,.draw _ _ | n+1,.sub _ _ | n+1,.loop _ | n+1,.scope _ | n+1,.label _ | n+1,.bad _=>by
  simp [nR,jm,CH]
def Ni:AC->List Oper
 | .seq (.reg _ l) _=>l
 | _=>[]
def getO (l:List Oper) (i:Nat):Oper:=l.getD i default
theorem vu {n:Nat} {L:List Sub}:∀(k:Nat) (c:AC),iJ P n L c->(∀x∈nR k c,iJ P n L x)/\iJ P n L (jm k c)
 | 0,c,h=>⟨by simp [nR],by simpa [jm] using h⟩
 | k+1,.seq a b,h=>by
  simp only [iJ] at h;have:=vu k b h.2;exact ⟨λx d=>by
   simp only [nR,cq] at d;rcases d with rfl | d
   ·exact h.1
   ·exact this.1 x d,by simpa [jm] using this.2⟩
 | k+1,.skip,h | k+1,.ret,h | k+1,.exit _,h | k+1,.cond _ _ _,h | k+1,.block _ _,h | k+1,.reg _ _,h | k+1,.draw _ _,h | k+1,.sub _ _,h | k+1,.loop _,h | k+1,.scope _,h | k+1,.label _,h | k+1,.bad _,h=>by
  exact ⟨by simp [nR],by simpa [jm] using h⟩
theorem JJ {α:Type} {E:List Ent} (I:∀x∈E,fO P x) {L:List Sub} {f:Nat} {fn:Func} {c:Code} {ac:AC} {k:Nat} {o1 oD:Oper} {g:Operand} {gid idD:Nat} {acB:AC} (G:P.funcs[f]?=some fn)
  (F:fn.body=some c) (w:ac.code=c) (i:jm k ac=.seq (.reg idD [o1,oD]) acB) (J:iJ P fn.ntmps L ac) (o:o1.guard=none) (p:oD.guard=none)
  (l:oD.op=.defer ⟨.value g,#[],#[]⟩) (q:oD.dst=none)
  {EC:List Ent} (n:∀x∈EC,fO P x) {B:List Sub} {b:Func} {C:Code} {a:AC} {idR:Nat} {oR:Oper} {tr:Nat} (s:P.funcs[gid]?=some b)
  (m:b.body=some C) (u:a.code=C) (d:jm 0 a=.seq (.reg idR [oR]) (jm 1 a)) (t:oR.op=.call ⟨.builtin .recover,#[],#[]⟩) (r:oR.guard=none) (A:oR.dst=some tr) (e:b.results=#[])
  (j:iJ P b.ntmps B a) (v:kG P gid)
  {args:List V} {H0:List (Nat×Blk)} {nb0 ro rb:Nat} {K:Bool->V->St->Option α} {z:α} (H:Nat.ble args.length fn.ntmps=true)
  (h:Oz P E L fn.ntmps (nR k ac) o1 g gid acB EC B b.ntmps (jm 1 a) tr fn.results.toList K ⟨qg args 0,H0,nb0,nb0,ro,rb⟩=some z):za P f args H0 nb0 ro K z:=by
 have D:=vu k ac J;have y:iJ P fn.ntmps L acB:=by
  have:=D.2;rw [i] at this;simp only [iJ] at this;exact this.2
 refine LS I G F rfl (As:=nR k ac) (o1:=o1) (oD:=oD) (idD:=idD) (acB:=acB) ?_ D.1 y o p l q n s (idR:=idR) (oR:=oR) (crest:=(jm 1 a).code) ?_ t r A e rfl (vu 1 a j).2 v H h
 ·rw [<-w,<-rU k ac,i];rfl
 ·rw [m,<-u,<-rU 0 a,d];rfl
end Go.Abs
