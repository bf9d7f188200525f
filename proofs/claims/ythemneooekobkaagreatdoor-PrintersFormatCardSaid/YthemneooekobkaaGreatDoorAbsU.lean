
/- Functions that defer a closure: what they come to.
   Conditions: none; generic over the program. -/
import Derived.Test.YthemneooekobkaaGreatDoorAbsP
import Derived.Recover
set_option linter.unusedSimpArgs false
set_option linter.unusedVariables false
namespace Go.Abs
variable {P:Program}
def runL {α:Type} (P:Program) (E:List Ent) (L:List Sub) (n:Nat) (k:Ex->St->Option α):List AC->St->Option α
 | [],s=>k .normal s
 | a::l,s=>run P E L n a s λex s=>match ex with
  | .normal=>runL P E L n k l s
  | .exit id=>k (.exit id) s
  | .ret=>k .ret s
  | .pan v=>k (.pan v) s
def AG {α:Type} (P:Program) (E:List Ent) (L:List Sub) (b:Nat) (c:AC) (tr:Nat) (cap:List V) (v:V) (s:St) (k:St->Option α):Option α:=
 match Nat.blt tr b&&(Nat.ble cap.length b&&Nat.ble cap.length tr) with
 | true=>run P E L b c ⟨(tr,some v)::tW cap 0,s.H,s.nb,s.nb,s.ro,s.nb⟩ λex a=>match Nat.beq a.ro s.ro&&Nat.beq a.rb s.nb with
  | true=>match ex with
   | .normal=>k { s with H:=a.H,nb:=a.nb }
   | .ret=>k { s with H:=a.H,nb:=a.nb }
   | .exit _=>none
   | .pan _=>none
  | false=>none
 | false=>none
def UY {α:Type} (P:Program) (E:List Ent) (L:List Sub) (n:Nat) (As:List AC) (o1:Oper) (g:Operand) (gid:Nat) (acB:AC) (EC:List Ent) (c:List Sub) (d:Nat) (a:AC) (tr:Nat)
  (b:List ResultVar) (K:Bool->V->St->Option α) (s:St):Option α:=
 runL P E L n (λex s=>match ex with
  | .normal=>KP P E n s.nb o1 s (λs=>match opd s.T g with
   | some (.fn f cap)=>match Nat.beq f gid&&Nat.blt f 1000000 with
    | true=>run P E L n acB { s with lo:=s.nb,rb:=s.nb } λex s'=>match Nat.beq s'.ro s.ro&&Nat.beq s'.rb s.nb with
     | true=>match ex with
      | .normal=>AG P EC c d a tr cap .ni { s' with lo:=s.lo,rb:=s.rb } λs=>finK P b K .ret s
      | .ret=>AG P EC c d a tr cap .ni { s' with lo:=s.lo,rb:=s.rb } λs=>finK P b K .ret s
      | .pan v=>AG P EC c d a tr cap v { s' with lo:=s.lo,rb:=s.rb } λs=>finK P b K .ret s
      | .exit _=>none
     | false=>none
    | false=>none
   | _=>none) (λ_ _=>none)
  | .exit id=>finK P b K (.exit id) s
  | .ret=>finK P b K .ret s
  | .pan v=>finK P b K (.pan v) s) As s
def GV:List AC->Code->Code
 | [],c=>c
 | a::l,c=>.seq a.code (GV l c)
theorem Px {α:Type} {E:List Ent} (p:∀x∈E,fM P x) {L:List Sub} {n:Nat} {k:Ex->St->Option α} {z:α} {c:Code} {ι0:Inj} {w0:Base} {Q:Exit->Act->World->Prop}
  (o:∀s ι a w,Inv n ι0 w0 ι s a w->k .normal s=some z->c.wp P Q a w)
  (f:∀ex s ι e a w,ex≠.normal->ExR ι ex e->Inv n ι0 w0 ι s a w->k ex s=some z->Q e a w):∀(As:List AC) (s:St) (ι:Inj) (a:Act) (w:World),(∀x∈As,kb P n L x)->
   Inv n ι0 w0 ι s a w->runL P E L n k As s=some z->(GV As c).wp P Q a w
 | [],s,ι,a,w,_,m,h=>o s ι a w m h
 | x::l,s,ι,a,w,hs,m,h=>by
  simp only [runL] at h;refine wp_seq (wp_mono (pL p x s _ z (hs x (by simp)) h ι0 w0 ι a w m) ?_);rintro e i w' ⟨ex,s',b,d,g,j⟩;cases ex with
  | normal=>simp only [ExR] at d;subst d;exact Px p o f l s' b i w' (λy hy=>hs y (f7 _ hy)) g j
  | exit id=>simp only [ExR] at d;subst d;exact f (.exit id) s' b _ i w' (by simp) rfl g j
  | ret=>simp only [ExR] at d;subst d;exact f .ret s' b _ i w' (by simp) rfl g j
  | pan v=>obtain ⟨y,rfl,hx⟩:=d;exact f (.pan v) s' b _ i w' (by simp) ⟨y,rfl,hx⟩ g j
theorem Inv.inner {n:Nat} {ι0 ι:Inj} {w0:Base} {s:St} {a:Act} {w:World} {D:List Deferred} (C:Inv n ι0 w0 ι s a w) (F:a.defers=D):Inv n ι ⟨w,D⟩ ι { s with lo:=s.nb,rb:=s.nb } a w:=
 ⟨C.size,F,C.tmps,C.mem,λ_ _ h=>.inl h,λ_ q h=>.inl ⟨q,h,rfl⟩,Fr.refl _ _,λb r h=>C.mem.low b r h,C.fz,C.glHere λ_ _ E=>⟨qD E,NJ E⟩⟩
theorem Inv.outer {n n':Nat} {ι0 ι E:Inj} {w0 w1:Base} {s s':St} {a a':Act} {w w':World} (O:Inv n ι0 w0 ι s a w) (hw:w1.w=w) (F:Inv n' ι w1 E s' a' w') (Y:s'.ro=s.ro) (hrb:s'.rb=s.nb):
  (∀b q,ι b=some q->E b=some q)/\(∀b q,ι0 b=some q->E b=some q\/s.rb<=b)/\(∀b q,E b=some (some q)->(∃Q,ι0 b=some (some Q)/\Q.r=q.r)\/w0.w.heap.size<=q.r)/\Fr (roI ι0 s.ro) w0.w w'/\
   (∀b q,E b=some (some q)->q.fz=true->b<s.ro):=by
 subst hw;have G:∀b q,ι b=some q->E b=some q:=by
  intro b q C;rcases F.ext b q C with h | h
  ·exact h
  ·have:=O.mem.low b q C;omega
 refine ⟨G,λb q C=>(O.ext b q C).imp (G b q) id,λb q C=>?_,O.fr.trans (λb q C=>?_) F.fr,λb q C hq=>by have:=F.fz b q C hq;omega⟩
 ·rcases F.new b q C with ⟨Q,Z,U⟩ | h
  ·rw [<-U];exact O.new b Q Z
  ·exact .inr (rQ O.fr.size h)
 ·have W:=qD C;have X:s.ro<=b:=by
   rw [Y] at C;unfold roI at C;cases J:Nat.blt b s.ro with
   | true=>simp [J] at C
   | false=>
    rcases aH b s.ro with h | h
    ·rw [show Nat.blt b s.ro=true from cP h] at J;cases J
    ·exact h
  exact (O.new b q W).imp (λ⟨Q,h,U⟩=>⟨Q,DL h X,U⟩) id
theorem Lm {α:Type} {E:List Ent} (hE:∀x∈E,fM P x) {L:List Sub} {g:Nat} {fn:Func} {l:AC} {idR:Nat} {oR:Oper} {tr:Nat} {crest:Code} (hf:P.funcs[g]?=some fn)
  (hb:fn.body=some (.seq (.region idR #[oR] false) crest)) (hoR:oR.op=.call ⟨.builtin .recover,#[],#[]⟩) (hgR:oR.guard=none) (hdR:oR.dst=some tr) (W:fn.results=#[]) (hc:l.code=crest)
  (hL:kb P fn.ntmps L l) {cap:List V} {v:V} {s:St} {k:St->Option α} {z:α} (h:AG P E L fn.ntmps l tr cap v s k=some z)
  {n:Nat} {ι0 ι:Inj} {w0:Base} {a:Act} {w:World} (i:Inv n ι0 w0 ι s a w) {j:List Value} (A:VRs ι cap j) {x:Value} (hx:VR ι v x) {u o:FrameMode}
  (hu:(u=.returning/\o=.returning/\x=.nilIface)\/∃y,u=.panicking [{ v:=y,recovered:=false }]/\o=.panicking [{ v:=y,recovered:=true }]/\x=y):
  CallsD P g j.toArray u w λe K w'=>K=o/\∃(y:Value) (s':St) (C:Inj),e=.returned y/\k s'=some z/\Inv n ι0 w0 C s' a w'/\s'.T=s.T:=by
 unfold AG at h;split at h
 case h_2=>cases h
 rename_i f;simp only [az] at f;have htr:tr<fn.ntmps:=aL f.1;have hcl:cap.length<=fn.ntmps:=aL f.2.1;have hct:cap.length<=tr:=aL f.2.2;have hlen:j.length=cap.length:=A.length;refine callsD_of_wpS hf hb λd Y G=>?_;have Q:∀a:Act,(execOp a.eval oR).run P w=.ok .recover w:=by
  intro a;simp [execOp,hoR,resolve,invoke,builtin]
 have p:∀F:List Frame,F={ d with mode:=o }::Y->
   crest.wpS P (bodyPostS P fn d Y λe K w'=>K=o/\∃(y:Value) (s':St) (C:Inj),e=.returned y/\k s'=some z/\Inv n ι0 w0 C s' a w'/\s'.T=s.T)
    (({ tmps:=j.toArray++Array.replicate (fn.ntmps - j.toArray.size) undef,defers:=[] }:Act).put oR.dst x) F w:=by
  intro F hfs;have hI2:Inv fn.ntmps ι ⟨w,[]⟩ ι ⟨(tr,some v)::tW cap 0,s.H,s.nb,s.nb,s.ro,s.nb⟩ (({ tmps:=j.toArray++Array.replicate (fn.ntmps - j.toArray.size) undef,defers:=[] }:Act).put oR.dst x) w:=by
   refine ⟨by rw [nG];simp;omega,by rw [jU],?_,i.mem,λ_ _ h=>.inl h,λ_ q h=>.inl ⟨q,h,rfl⟩,Fr.refl _ _,λb r h=>i.mem.low b r h,i.fz,i.glHere λ_ _ hb=>⟨qD hb,NJ hb⟩⟩;rw [hdR];refine TR.put (λt u S=>?_) (by simp;omega) (λu hu=>by cases hu;exact hx);rw [sU,ae (kE _)] at S;simp only [ub] at S;cases hl:cap[t]? with
   | none=>simp [hl] at S
   | some u=>
    simp only [hl,fg,av] at S;subst S;obtain ⟨x,M,N⟩:=A.get hl;have h1':j.toArray[t]?=some x:=by simpa using M
    have hlt:t<j.toArray.size:=by
     rcases aH t j.toArray.size with h' | h'
     ·exact h'
     ·rw [wx h'] at h1';cases h1'
    exact ⟨x,by rw [VT hlt];exact h1',N⟩
  subst hc hfs;refine wpS_of_wp (uB ?_ (pL hE l _ _ z hL h ι ⟨w,[]⟩ ι _ w hI2));rintro e a' w' ⟨ex,s2,D,M,N,O⟩;split at O
  case h_2=>cases O
  rename_i U;simp only [az,jG] at U;obtain ⟨R,X⟩:=U;obtain ⟨Z,o1,o2,o3,o4⟩:=i.outer rfl N R X;have B:Inv n ι0 w0 D { s with H:=s2.H,nb:=s2.nb } a w':=⟨i.size,i.defers,i.tmps.mono Z,N.mem,o1,o2,o3,i.low,o4,i.gl⟩;have c:(results fn a'.tmps).run P w'=.ok (.tuple #[]) w':=by
   rw [An,W];simp [aF]
  cases ex with
  | normal=>simp only [ExR] at M;subst M;exact ⟨N.defers,o,rfl,_,c,rfl,_,_,D,rfl,O,B,rfl⟩
  | ret=>simp only [ExR] at M;subst M;exact ⟨N.defers,o,rfl,_,c,rfl,_,_,D,rfl,O,B,rfl⟩
  | exit id=>cases O
  | pan v=>cases O
 refine wpS_seq (wpS_region ?_);show wpOpsS P #[oR] _ [0] _ _ w;simp only [wpOpsS];have h0:(#[oR]:Array Oper)[0]?=some oR:=rfl;rw [h0];simp only;have hw:∀y,Region.wanted oR y=true:=λy=>by simp [Region.wanted,hgR]
 rw [hw];simp only [aM,Q];rcases hu with ⟨m,J,I⟩ | ⟨y,m,J,I⟩
 ·subst I;have:recoverD (d::Y)=none:=by simp [recoverD,G,m]
  rw [this];exact p _ (by rw [J,<-m,<-G])
 ·subst I;have:recoverD (d::Y)=some (x,{ d with mode:=o }::Y):=by simp [recoverD,G,m,J]
  rw [this];exact p _ rfl
theorem QW {α:Type} {E:List Ent} (hE:∀x∈E,fM P x) {L:List Sub} {f:Nat} {fn:Func} {c:Code} {As:List AC} {o1 oD:Oper} {g:Operand} {gid idD:Nat} {acB:AC} {cB:Code} (hf:P.funcs[f]?=some fn)
  (U:fn.body=some c) (hcB:acB.code=cB) (hc:GV As (.seq (.region idD #[o1,oD] false) cB)=c) (hLA:∀x∈As,kb P fn.ntmps L x) (hLB:kb P fn.ntmps L acB) (hg1:o1.guard=none) (hgD:oD.guard=none)
  (hoD:oD.op=.defer ⟨.value g,#[],#[]⟩) (hdD:oD.dst=none)
  {EC:List Ent} (hEC:∀x∈EC,fM P x) {LC:List Sub} {m:Func} {C:AC} {idR:Nat} {oR:Oper} {tr:Nat} {crest:Code} (hfC:P.funcs[gid]?=some m)
  (hbC:m.body=some (.seq (.region idR #[oR] false) crest)) (hoR:oR.op=.call ⟨.builtin .recover,#[],#[]⟩) (hgR:oR.guard=none) (hdR:oR.dst=some tr) (Q:m.results=#[]) (hcC:C.code=crest)
  (hLC:kb P m.ntmps LC C) (hEn:lu P gid)
  {args:List V} {H0:List (Nat×Blk)} {nb0 ro rb:Nat} {K:Bool->V->St->Option α} {z:α} (hn:Nat.ble args.length fn.ntmps=true)
  (h:UY P E L fn.ntmps As o1 g gid acB EC LC m.ntmps C tr fn.results.toList K ⟨tW args 0,H0,nb0,nb0,ro,rb⟩=some z):BF P f args H0 nb0 ro K z:=by
 intro ι0 w M hW hfz hgl hx;have hlen:M.size=args.length:=by simpa using hx.length
 have hn:=aL hn;refine calls_of_wp_defers hf U ?_;rw [<-hc];have hI:Inv fn.ntmps ι0 ⟨w,[]⟩ ι0 ⟨tW args 0,H0,nb0,nb0,ro,rb⟩ { tmps:=M++Array.replicate (fn.ntmps - M.size) undef,defers:=[] } w:=by
  refine ⟨by simp;omega,rfl,λt v N=>?_,hW,λ_ _ h=>.inl h,λ_ q h=>.inl ⟨q,h,rfl⟩,Fr.refl _ _,λb r h=>hW.low b r h,hfz,hgl⟩;rw [sU,ae (kE _)] at N;simp only [ub] at N;cases hl:args[t]? with
  | none=>simp [hl] at N
  | some u=>
   simp only [hl,fg,av] at N;subst N;obtain ⟨x,o,i⟩:=hx.get hl;have h1':M[t]?=some x:=by simpa using o
   have hlt:t<M.size:=by
    rcases aH t M.size with h' | h'
    ·exact h'
    ·rw [wx h'] at h1';cases h1'
   exact ⟨x,by rw [VT hlt];exact h1',i⟩
 have Y:∀{D:List Deferred} (s':St) (j:Inj) (B:Act) (w':World),Inv fn.ntmps ι0 ⟨w,D⟩ j s' B w'->finK P fn.results.toList K .ret s'=some z->
   ∃v,(results fn B.tmps).run P w'=.ok v w'/\∃(pan:Bool) (u:V) (s:St) (ι:Inj),K pan u s=some z/\(∀b q,ι0 b=some q->ι b=some q\/s.rb<=b)/\(∀b q,ι b=some (some q)->(∃Z,ι0 b=some (some Z)/\Z.r=q.r)\/w.heap.size<=q.r)/\
   WR ι s.H s.nb w'/\(∀b q,ι b=some (some q)->q.fz=true->b<s.ro)/\Fr (roI ι0 s.ro) w w'/\RetR ι { val:=u,pan:=pan } (.returned v):=by
  intro D s' j B w' i n;simp only [finK] at n;obtain ⟨v,x,X,g2,g3⟩:=Au (fn:=fn) (c:=λv=>K false v s') i n;exact ⟨x,g3,false,v,s',j,X,i.ext,i.new,i.mem,i.fz,i.fr,rfl,g2⟩
 refine Px hE ?_ ?_ As _ ι0 _ w hLA hI h
 ·
  intro s ι a w1 hI1 hk;simp only at hk;refine wp_seq (wp_region_lit (l:=[o1,oD]) ?_);unfold wpList;have hw1:∀y,Region.wanted o1 y=true:=λy=>by simp [Region.wanted,hg1]
  have hwD:∀y,Region.wanted oD y=true:=λy=>by simp [Region.wanted,hgD]
  rw [hw1];simp only [aM];refine .inl (By hE hI1 (λb U=>hI1.fresh b U) (aX _) hk (λW G a2 R p d=>?_) (λv s' j x B w' hk=>by cases hk));split at p
  case h_2=>cases p
  rename_i J cap hgo;split at p
  case h_2=>cases p
  rename_i S;simp only [az,jG] at S;obtain ⟨hff1,hff2⟩:=S;subst hff1;obtain ⟨I,hv1,hv2⟩:=R2 d.tmps hgo;rw [FV hff2] at hv1;unfold wpList;rw [hwD];simp only [aM];refine .inl ?_;unfold Oper.wp;have T:(execOp a2.eval oD).run P R=.ok (.defer { target:=.fn (.func J) I,args:=#[] }) R:=by
   simp only [execOp,hoD,resolve,hv1,Deferred.ofValue,ay,aF,aA];simp
  rw [T,Oper.upon_defer,hdD];simp only [Act.put];unfold wpList;simp only [Exit.then];have F:Inv fn.ntmps ι0 ⟨w,[{ target:=.fn (.func J) I,args:=#[] }]⟩ G W { a2 with defers:={ target:=.fn (.func J) I,args:=#[] }::a2.defers } R:=
   ⟨d.size,by rw [d.defers],d.tmps,d.mem,d.ext,d.new,d.fr,d.low,d.fz,d.gl⟩
  subst hcB;refine uB ?_ (pL hE acB _ _ z hLB p G ⟨R,[{ target:=.fn (.func J) I,args:=#[] }]⟩ G _ R (F.inner F.defers));rintro e B w' ⟨ex,s',j,o,i,n⟩;split at n
  case h_2=>cases n
  rename_i hro;simp only [az,jG] at hro;obtain ⟨A,hro2⟩:=hro;obtain ⟨hext,o1,o2,o3,o4⟩:=F.outer rfl i A hro2;have hI4:Inv fn.ntmps ι0 ⟨w,[{ target:=.fn (.func J) I,args:=#[] }]⟩ j { s' with lo:=W.lo,rb:=W.rb } B w':=
   ⟨i.size,i.defers,i.tmps,i.mem,o1,o2,by show Fr (roI ι0 s'.ro) w w';rw [A];exact o3,d.low,λb q U hq=>by have:=o4 b q U hq;simp only;omega,by show GL (roI ι0 s'.ro) w;rw [A];exact F.gl⟩
  have hcv:=VRs.mono hext _ _ hv2;have k:∀(v:V) (x:Value) (u u':FrameMode),VR j v x->u≠.run->(settle u'=.returning)->
    ((u=.returning/\u'=.returning/\x=.nilIface)\/∃y,u=.panicking [{ v:=y,recovered:=false }]/\u'=.panicking [{ v:=y,recovered:=true }]/\x=y)->
    AG P EC LC m.ntmps C tr cap v { s' with lo:=W.lo,rb:=W.rb } (λs=>finK P fn.results.toList K .ret s)=some z->
    Leaves P fn B.tmps (λe w'=>∃(pan:Bool) (u:V) (s:St) (ι:Inj),K pan u s=some z/\(∀b q,ι0 b=some q->ι b=some q\/s.rb<=b)/\(∀b q,ι b=some (some q)->(∃Z,ι0 b=some (some Z)/\Z.r=q.r)\/w.heap.size<=q.r)/\
     WR ι s.H s.nb w'/\(∀b q,ι b=some (some q)->q.fz=true->b<s.ro)/\Fr (roI ι0 s.ro) w w'/\RetR ι { val:=u,pan:=pan } e) B.defers u w':=by
   intro v x u u' hvx hur O hu ha;rw [i.defers];refine leaves_cons hur (f:=J) (args:=I.toList.toArray) ?_ ?_
   ·have:=hEn I w';simpa [invoke] using this
   ·refine (Lm hEC hfC hbC hoR hgR hdR Q hcC hLC ha hI4 hcv hvx hu).mono ?_;rintro e u'' w'' ⟨rfl,y,s3,ι3,rfl,h4,h5,h6⟩;obtain ⟨v,X,g2⟩:=Y s3 ι3 B w'' h5 h4;simp only [O];exact ⟨v,X,g2⟩
  cases ex with
  | normal=>simp only [ExR] at o;subst o;exact k .ni .nilIface .returning .returning (by simp [VR]) (by simp) rfl (.inl ⟨rfl,rfl,rfl⟩) n
  | ret=>simp only [ExR] at o;subst o;exact k .ni .nilIface .returning .returning (by simp [VR]) (by simp) rfl (.inl ⟨rfl,rfl,rfl⟩) n
  | exit id=>cases n
  | pan v=>
   obtain ⟨x,rfl,hx⟩:=o;exact k v x (.panicking [{ v:=x,recovered:=false }]) (.panicking [{ v:=x,recovered:=true }]) hx (by simp) (by simp [settle]) (.inr ⟨x,rfl,rfl,rfl⟩) n
 ·rintro ex s ι e a w1 hne o i n;cases ex with
  | normal=>exact absurd rfl hne
  | exit id=>simp [finK] at n
  | ret=>
   simp only [ExR] at o;subst o;obtain ⟨v,X,g2⟩:=Y s ι a w1 i n;show Leaves P fn a.tmps _ a.defers .returning w1;rw [i.defers];exact ⟨v,X,g2⟩
  | pan v=>
   obtain ⟨x,rfl,hx⟩:=o;show Leaves P fn a.tmps _ a.defers (.panicking _) w1;rw [i.defers];exact ⟨true,v,s,ι,n,i.ext,i.new,i.mem,i.fz,i.fr,rfl,x,rfl,hx⟩
def qY:Nat->AC->List AC
 | n+1,.seq a b=>a::qY n b
 | _,_=>[]
def kS:Nat->AC->AC
 | n+1,.seq _ b=>kS n b
 | _,c=>c
theorem vJ:∀(n:Nat) (c:AC),GV (qY n c) (kS n c).code=c.code
 | 0,c=>by simp [qY,kS,GV]
 | n+1,.seq a b=>by simp [qY,kS,GV,vJ n b,AC.code]
 | n+1,.skip | n+1,.ret | n+1,.exit _ | n+1,.cond _ _ _ | n+1,.block _ _ | n+1,.reg _ _ | n+1,.draw _ _ | n+1,.sub _ _ | n+1,.loop _ | n+1,.scope _ | n+1,.label _ | n+1,.bad _=>by
  simp [qY,kS,GV]
def S8:AC->List Oper
 | .seq (.reg _ l) _=>l
 | _=>[]
def getO (l:List Oper) (i:Nat):Oper:=l.getD i default
theorem yU {n:Nat} {L:List Sub}:∀(k:Nat) (c:AC),kb P n L c->(∀x∈qY k c,kb P n L x)/\kb P n L (kS k c)
 | 0,c,h=>⟨by simp [qY],by simpa [kS] using h⟩
 | k+1,.seq a b,h=>by
  simp only [kb] at h;have:=yU k b h.2;exact ⟨λx hx=>by
   simp only [qY,cN] at hx;rcases hx with rfl | hx
   ·exact h.1
   ·exact this.1 x hx,by simpa [kS] using this.2⟩
 | k+1,.skip,h | k+1,.ret,h | k+1,.exit _,h | k+1,.cond _ _ _,h | k+1,.block _ _,h | k+1,.reg _ _,h | k+1,.draw _ _,h | k+1,.sub _ _,h | k+1,.loop _,h | k+1,.scope _,h | k+1,.label _,h | k+1,.bad _,h=>by
  exact ⟨by simp [qY],by simpa [kS] using h⟩
theorem Ld {α:Type} {E:List Ent} (I:∀x∈E,fM P x) {L:List Sub} {f:Nat} {fn:Func} {c:Code} {ac:AC} {k:Nat} {o1 oD:Oper} {g:Operand} {gid idD:Nat} {acB:AC} (D:P.funcs[f]?=some fn)
  (F:fn.body=some c) (p:ac.code=c) (d:kS k ac=.seq (.reg idD [o1,oD]) acB) (H:kb P fn.ntmps L ac) (r:o1.guard=none) (s:oD.guard=none)
  (n:oD.op=.defer ⟨.value g,#[],#[]⟩) (t:oD.dst=none)
  {EC:List Ent} (u:∀x∈EC,fM P x) {C:List Sub} {b:Func} {B:Code} {a:AC} {idR:Nat} {oR:Oper} {tr:Nat} (m:P.funcs[gid]?=some b)
  (y:b.body=some B) (A:a.code=B) (i:kS 0 a=.seq (.reg idR [oR]) (kS 1 a)) (o:oR.op=.call ⟨.builtin .recover,#[],#[]⟩) (j:oR.guard=none) (q:oR.dst=some tr) (e:b.results=#[])
  (l:kb P b.ntmps C a) (v:lu P gid)
  {args:List V} {H0:List (Nat×Blk)} {nb0 ro rb:Nat} {K:Bool->V->St->Option α} {z:α} (G:Nat.ble args.length fn.ntmps=true)
  (h:UY P E L fn.ntmps (qY k ac) o1 g gid acB EC C b.ntmps (kS 1 a) tr fn.results.toList K ⟨tW args 0,H0,nb0,nb0,ro,rb⟩=some z):BF P f args H0 nb0 ro K z:=by
 have hs:=yU k ac H;have w:kb P fn.ntmps L acB:=by
  have:=hs.2;rw [d] at this;simp only [kb] at this;exact this.2
 refine QW I D F rfl (As:=qY k ac) (o1:=o1) (oD:=oD) (idD:=idD) (acB:=acB) ?_ hs.1 w r s n t u m (idR:=idR) (oR:=oR) (crest:=(kS 1 a).code) ?_ o j q e rfl (yU 1 a l).2 v G h
 ·rw [<-p,<-vJ k ac,d];rfl
 ·rw [y,<-A,<-vJ 0 a,i];rfl
end Go.Abs
