
/- Functions that defer a closure: what they come to.
   Conditions: none; generic over the program. -/
import Derived.Test.YthemneooekobkabGreatDoorAbsP
import Derived.Recover
set_option linter.unusedSimpArgs false
set_option linter.unusedVariables false
namespace Go.Abs
variable {P:Program}
def runL {α:Type} (P:Program) (E:List Ent) (L:List Sub) (n:Nat) (k:Ex->St->Option α):List AC->St->Option α
 | [],s=>k .normal s
 | a::l,s=>run P E L n a s λex s=>match ex with
  | .normal=>runL P E L n k l s
  | .exit id=>k (.exit id) s
  | .ret=>k .ret s
  | .pan v=>k (.pan v) s
def zE {α:Type} (P:Program) (E:List Ent) (L:List Sub) (c:Nat) (b:AC) (tr:Nat) (cap:List V) (v:V) (s:St) (k:St->Option α):Option α:=
 match Nat.blt tr c&&(Nat.ble cap.length c&&Nat.ble cap.length tr) with
 | true=>run P E L c b ⟨(tr,some v)::sW cap 0,s.H,s.nb,s.nb,s.ro,s.nb⟩ λex a=>match Nat.beq a.ro s.ro&&Nat.beq a.rb s.nb with
  | true=>match ex with
   | .normal=>k { s with H:=a.H,nb:=a.nb }
   | .ret=>k { s with H:=a.H,nb:=a.nb }
   | .exit _=>none
   | .pan _=>none
  | false=>none
 | false=>none
def SB {α:Type} (P:Program) (E:List Ent) (L:List Sub) (n:Nat) (As:List AC) (o1:Oper) (g:Operand) (gid:Nat) (acB:AC) (EC:List Ent) (c:List Sub) (d:Nat) (a:AC) (tr:Nat)
  (b:List ResultVar) (K:Bool->V->St->Option α) (s:St):Option α:=
 runL P E L n (λex s=>match ex with
  | .normal=>JX P E n s.nb o1 s (λs=>match opd s.T g with
   | some (.fn f cap)=>match Nat.beq f gid&&Nat.blt f 1000000 with
    | true=>run P E L n acB { s with lo:=s.nb,rb:=s.nb } λex s'=>match Nat.beq s'.ro s.ro&&Nat.beq s'.rb s.nb with
     | true=>match ex with
      | .normal=>zE P EC c d a tr cap .ni { s' with lo:=s.lo,rb:=s.rb } λs=>finK P b K .ret s
      | .ret=>zE P EC c d a tr cap .ni { s' with lo:=s.lo,rb:=s.rb } λs=>finK P b K .ret s
      | .pan v=>zE P EC c d a tr cap v { s' with lo:=s.lo,rb:=s.rb } λs=>finK P b K .ret s
      | .exit _=>none
     | false=>none
    | false=>none
   | _=>none) (λ_ _=>none)
  | .exit id=>finK P b K (.exit id) s
  | .ret=>finK P b K .ret s
  | .pan v=>finK P b K (.pan v) s) As s
def E7:List AC->Code->Code
 | [],c=>c
 | a::l,c=>.seq a.code (E7 l c)
theorem JW {α:Type} {E:List Ent} (p:∀x∈E,fH P x) {L:List Sub} {n:Nat} {k:Ex->St->Option α} {z:α} {c:Code} {ι0:Inj} {w0:Base} {Q:Exit->Act->World->Prop}
  (o:∀s ι a w,Inv n ι0 w0 ι s a w->k .normal s=some z->c.wp P Q a w)
  (g:∀ex s ι e a w,ex≠.normal->ExR ι ex e->Inv n ι0 w0 ι s a w->k ex s=some z->Q e a w):∀(As:List AC) (s:St) (ι:Inj) (a:Act) (w:World),(∀x∈As,jV P n L x)->
   Inv n ι0 w0 ι s a w->runL P E L n k As s=some z->(E7 As c).wp P Q a w
 | [],s,ι,a,w,_,m,h=>o s ι a w m h
 | x::l,s,ι,a,w,hs,m,h=>by
  simp only [runL] at h;refine wp_seq (wp_mono (o9 p x s _ z (hs x (by simp)) h ι0 w0 ι a w m) ?_);rintro e f w' ⟨ex,s',b,d,i,j⟩;cases ex with
  | normal=>simp only [ExR] at d;subst d;exact JW p o g l s' b f w' (λy hy=>hs y (fN _ hy)) i j
  | exit id=>simp only [ExR] at d;subst d;exact g (.exit id) s' b _ f w' (by simp) rfl i j
  | ret=>simp only [ExR] at d;subst d;exact g .ret s' b _ f w' (by simp) rfl i j
  | pan v=>obtain ⟨y,rfl,hx⟩:=d;exact g (.pan v) s' b _ f w' (by simp) ⟨y,rfl,hx⟩ i j
theorem Inv.inner {n:Nat} {ι0 ι:Inj} {w0:Base} {s:St} {a:Act} {w:World} {D:List Deferred} (C:Inv n ι0 w0 ι s a w) (F:a.defers=D):Inv n ι ⟨w,D⟩ ι { s with lo:=s.nb,rb:=s.nb } a w:=
 ⟨C.size,F,C.tmps,C.mem,λ_ _ h=>.inl h,λ_ q h=>.inl ⟨q,h,rfl⟩,Fr.refl _ _,λb r h=>C.mem.low b r h,C.fz,C.glHere λ_ _ E=>⟨qd E,Ln E⟩⟩
theorem Inv.outer {n n':Nat} {ι0 ι E:Inj} {w0 w1:Base} {s s':St} {a a':Act} {w w':World} (Q:Inv n ι0 w0 ι s a w) (hw:w1.w=w) (F:Inv n' ι w1 E s' a' w') (W:s'.ro=s.ro) (hrb:s'.rb=s.nb):
  (∀b q,ι b=some q->E b=some q)/\(∀b q,ι0 b=some q->E b=some q\/s.rb<=b)/\(∀b q,E b=some (some q)->(∃O,ι0 b=some (some O)/\O.r=q.r)\/w0.w.heap.size<=q.r)/\Fr (roI ι0 s.ro) w0.w w'/\
   (∀b q,E b=some (some q)->q.fz=true->b<s.ro):=by
 subst hw;have G:∀b q,ι b=some q->E b=some q:=by
  intro b q C;rcases F.ext b q C with h | h
  ·exact h
  ·have:=Q.mem.low b q C;omega
 refine ⟨G,λb q C=>(Q.ext b q C).imp (G b q) id,λb q C=>?_,Q.fr.trans (λb q C=>?_) F.fr,λb q C hq=>by have:=F.fz b q C hq;omega⟩
 ·rcases F.new b q C with ⟨O,Y,Z⟩ | h
  ·rw [<-Z];exact Q.new b O Y
  ·exact .inr (rq Q.fr.size h)
 ·have X:=qd C;have U:s.ro<=b:=by
   rw [W] at C;unfold roI at C;cases J:Nat.blt b s.ro with
   | true=>simp [J] at C
   | false=>
    rcases aG b s.ro with h | h
    ·rw [show Nat.blt b s.ro=true from di h] at J;cases J
    ·exact h
  exact (Q.new b q X).imp (λ⟨O,h,Z⟩=>⟨O,CJ h U,Z⟩) id
theorem Oe {α:Type} {E:List Ent} (hE:∀x∈E,fH P x) {L:List Sub} {g:Nat} {fn:Func} {l:AC} {idR:Nat} {oR:Oper} {tr:Nat} {crest:Code} (hf:P.funcs[g]?=some fn)
  (hb:fn.body=some (.seq (.region idR #[oR] false) crest)) (hoR:oR.op=.call ⟨.builtin .recover,#[],#[]⟩) (hgR:oR.guard=none) (hdR:oR.dst=some tr) (S:fn.results=#[]) (hc:l.code=crest)
  (hL:jV P fn.ntmps L l) {cap:List V} {v:V} {s:St} {k:St->Option α} {z:α} (h:zE P E L fn.ntmps l tr cap v s k=some z)
  {n:Nat} {ι0 ι:Inj} {w0:Base} {a:Act} {w:World} (i:Inv n ι0 w0 ι s a w) {j:List Value} (p:VRs ι cap j) {x:Value} (hx:VR ι v x) {u B:FrameMode}
  (hu:(u=.returning/\B=.returning/\x=.nilIface)\/∃y,u=.panicking [{ v:=y,recovered:=false }]/\B=.panicking [{ v:=y,recovered:=true }]/\x=y):
  CallsD P g j.toArray u w λe C w'=>C=B/\∃(y:Value) (s':St) (J:Inj),e=.returned y/\k s'=some z/\Inv n ι0 w0 J s' a w'/\s'.T=s.T:=by
 unfold zE at h;split at h
 case h_2=>cases h
 rename_i f;simp only [aA] at f;have htr:tr<fn.ntmps:=aI f.1;have hcl:cap.length<=fn.ntmps:=aI f.2.1;have hct:cap.length<=tr:=aI f.2.2;have hlen:j.length=cap.length:=p.length;refine callsD_of_wpS hf hb λd Y I=>?_;have U:∀a:Act,(execOp a.eval oR).run P w=.ok .recover w:=by
  intro a;simp [execOp,hoR,resolve,invoke,builtin]
 have o:∀D:List Frame,D={ d with mode:=B }::Y->
   crest.wpS P (bodyPostS P fn d Y λe C w'=>C=B/\∃(y:Value) (s':St) (J:Inj),e=.returned y/\k s'=some z/\Inv n ι0 w0 J s' a w'/\s'.T=s.T)
    (({ tmps:=j.toArray++Array.replicate (fn.ntmps - j.toArray.size) undef,defers:=[] }:Act).put oR.dst x) D w:=by
  intro D hfs;have hI2:Inv fn.ntmps ι ⟨w,[]⟩ ι ⟨(tr,some v)::sW cap 0,s.H,s.nb,s.nb,s.ro,s.nb⟩ (({ tmps:=j.toArray++Array.replicate (fn.ntmps - j.toArray.size) undef,defers:=[] }:Act).put oR.dst x) w:=by
   refine ⟨by rw [nG];simp;omega,by rw [jG],?_,i.mem,λ_ _ h=>.inl h,λ_ q h=>.inl ⟨q,h,rfl⟩,Fr.refl _ _,λb r h=>i.mem.low b r h,i.fz,i.glHere λ_ _ hb=>⟨qd hb,Ln hb⟩⟩;rw [hdR];refine TR.put (λt u Z=>?_) (by simp;omega) (λu hu=>by cases hu;exact hx);rw [sa,ae (fU _)] at Z;simp only [qm] at Z;cases hl:cap[t]? with
   | none=>simp [hl] at Z
   | some u=>
    simp only [hl,fc,au] at Z;subst Z;obtain ⟨x,N,O⟩:=p.get hl;have h1':j.toArray[t]?=some x:=by simpa using N
    have hlt:t<j.toArray.size:=by
     rcases aG t j.toArray.size with h' | h'
     ·exact h'
     ·rw [yj h'] at h1';cases h1'
    exact ⟨x,by rw [Sz hlt];exact h1',O⟩
  subst hc hfs;refine wpS_of_wp (tO ?_ (o9 hE l _ _ z hL h ι ⟨w,[]⟩ ι _ w hI2));rintro e a' w' ⟨ex,s2,K,N,O,M⟩;split at M
  case h_2=>cases M
  rename_i X;simp only [aA,ju] at X;obtain ⟨R,W⟩:=X;obtain ⟨Q,o1,o2,o3,o4⟩:=i.outer rfl O R W;have A:Inv n ι0 w0 K { s with H:=s2.H,nb:=s2.nb } a w':=⟨i.size,i.defers,i.tmps.mono Q,O.mem,o1,o2,o3,i.low,o4,i.gl⟩;have c:(results fn a'.tmps).run P w'=.ok (.tuple #[]) w':=by
   rw [zA,S];simp [aD]
  cases ex with
  | normal=>simp only [ExR] at N;subst N;exact ⟨O.defers,B,rfl,_,c,rfl,_,_,K,rfl,M,A,rfl⟩
  | ret=>simp only [ExR] at N;subst N;exact ⟨O.defers,B,rfl,_,c,rfl,_,_,K,rfl,M,A,rfl⟩
  | exit id=>cases M
  | pan v=>cases M
 refine wpS_seq (wpS_region ?_);show wpOpsS P #[oR] _ [0] _ _ w;simp only [wpOpsS];have h0:(#[oR]:Array Oper)[0]?=some oR:=rfl;rw [h0];simp only;have hw:∀y,Region.wanted oR y=true:=λy=>by simp [Region.wanted,hgR]
 rw [hw];simp only [aJ,U];rcases hu with ⟨m,G,F⟩ | ⟨y,m,G,F⟩
 ·subst F;have:recoverD (d::Y)=none:=by simp [recoverD,I,m]
  rw [this];exact o _ (by rw [G,<-m,<-I])
 ·subst F;have:recoverD (d::Y)=some (x,{ d with mode:=B }::Y):=by simp [recoverD,I,m,G]
  rw [this];exact o _ rfl
theorem Pe {α:Type} {E:List Ent} (hE:∀x∈E,fH P x) {L:List Sub} {f:Nat} {fn:Func} {c:Code} {As:List AC} {o1 oD:Oper} {g:Operand} {gid idD:Nat} {acB:AC} {cB:Code} (hf:P.funcs[f]?=some fn)
  (hb:fn.body=some c) (hcB:acB.code=cB) (hc:E7 As (.seq (.region idD #[o1,oD] false) cB)=c) (hLA:∀x∈As,jV P fn.ntmps L x) (hLB:jV P fn.ntmps L acB) (hg1:o1.guard=none) (hgD:oD.guard=none)
  (hoD:oD.op=.defer ⟨.value g,#[],#[]⟩) (hdD:oD.dst=none)
  {EC:List Ent} (hEC:∀x∈EC,fH P x) {LC:List Sub} {n:Func} {C:AC} {idR:Nat} {oR:Oper} {tr:Nat} {crest:Code} (hfC:P.funcs[gid]?=some n)
  (hbC:n.body=some (.seq (.region idR #[oR] false) crest)) (hoR:oR.op=.call ⟨.builtin .recover,#[],#[]⟩) (hgR:oR.guard=none) (hdR:oR.dst=some tr) (hres:n.results=#[]) (hcC:C.code=crest)
  (hLC:jV P n.ntmps LC C) (hEn:kV P gid)
  {args:List V} {H0:List (Nat×Blk)} {nb0 ro rb:Nat} {K:Bool->V->St->Option α} {z:α} (hn:Nat.ble args.length fn.ntmps=true)
  (h:SB P E L fn.ntmps As o1 g gid acB EC LC n.ntmps C tr fn.results.toList K ⟨sW args 0,H0,nb0,nb0,ro,rb⟩=some z):AK P f args H0 nb0 ro K z:=by
 intro ι0 w M hW hfz hgl hx;have hlen:M.size=args.length:=by simpa using hx.length
 have hn:=aI hn;refine calls_of_wp_defers hf hb ?_;rw [<-hc];have hI:Inv fn.ntmps ι0 ⟨w,[]⟩ ι0 ⟨sW args 0,H0,nb0,nb0,ro,rb⟩ { tmps:=M++Array.replicate (fn.ntmps - M.size) undef,defers:=[] } w:=by
  refine ⟨by simp;omega,rfl,λt v hv=>?_,hW,λ_ _ h=>.inl h,λ_ q h=>.inl ⟨q,h,rfl⟩,Fr.refl _ _,λb r h=>hW.low b r h,hfz,hgl⟩;rw [sa,ae (fU _)] at hv;simp only [qm] at hv;cases hl:args[t]? with
  | none=>simp [hl] at hv
  | some u=>
   simp only [hl,fc,au] at hv;subst hv;obtain ⟨x,o,i⟩:=hx.get hl;have h1':M[t]?=some x:=by simpa using o
   have hlt:t<M.size:=by
    rcases aG t M.size with h' | h'
    ·exact h'
    ·rw [yj h'] at h1';cases h1'
   exact ⟨x,by rw [Sz hlt];exact h1',i⟩
 have fin:∀{D:List Deferred} (s':St) (k:Inj) (B:Act) (w':World),Inv fn.ntmps ι0 ⟨w,D⟩ k s' B w'->finK P fn.results.toList K .ret s'=some z->
   ∃v,(results fn B.tmps).run P w'=.ok v w'/\∃(pan:Bool) (u:V) (s:St) (ι:Inj),K pan u s=some z/\(∀b q,ι0 b=some q->ι b=some q\/s.rb<=b)/\(∀b q,ι b=some (some q)->(∃q',ι0 b=some (some q')/\q'.r=q.r)\/w.heap.size<=q.r)/\
   WR ι s.H s.nb w'/\(∀b q,ι b=some (some q)->q.fz=true->b<s.ro)/\Fr (roI ι0 s.ro) w w'/\RetR ι { val:=u,pan:=pan } (.returned v):=by
  intro D s' k B w' i m;simp only [finK] at m;obtain ⟨v,x,Y,R,g3⟩:=zo (fn:=fn) (c:=λv=>K false v s') i m;exact ⟨x,g3,false,v,s',k,Y,i.ext,i.new,i.mem,i.fz,i.fr,rfl,R⟩
 refine JW hE ?_ ?_ As _ ι0 _ w hLA hI h
 ·
  intro s ι a w1 hI1 hk;simp only at hk;refine wp_seq (wp_region_lit (l:=[o1,oD]) ?_);unfold wpList;have hw1:∀y,Region.wanted o1 y=true:=λy=>by simp [Region.wanted,hg1]
  have hwD:∀y,Region.wanted oD y=true:=λy=>by simp [Region.wanted,hgD]
  rw [hw1];simp only [aJ];refine .inl (Bd hE hI1 (λb hb=>hI1.fresh b hb) (aW _) hk (λs2 G a2 O A d=>?_) (λv s' k x B w' hk=>by cases hk));split at A
  case h_2=>cases A
  rename_i J cap hgo;split at A
  case h_2=>cases A
  rename_i Z;simp only [aA,ju] at Z;obtain ⟨N,S⟩:=Z;subst N;obtain ⟨I,X,hv2⟩:=Re d.tmps hgo;rw [FI S] at X;unfold wpList;rw [hwD];simp only [aJ];refine .inl ?_;unfold Oper.wp;have T:(execOp a2.eval oD).run P O=.ok (.defer { target:=.fn (.func J) I,args:=#[] }) O:=by
   simp only [execOp,hoD,resolve,X,Deferred.ofValue,aw,aD,ay];simp
  rw [T,Oper.upon_defer,hdD];simp only [Act.put];unfold wpList;simp only [Exit.then];have F:Inv fn.ntmps ι0 ⟨w,[{ target:=.fn (.func J) I,args:=#[] }]⟩ G s2 { a2 with defers:={ target:=.fn (.func J) I,args:=#[] }::a2.defers } O:=
   ⟨d.size,by rw [d.defers],d.tmps,d.mem,d.ext,d.new,d.fr,d.low,d.fz,d.gl⟩
  subst hcB;refine tO ?_ (o9 hE acB _ _ z hLB A G ⟨O,[{ target:=.fn (.func J) I,args:=#[] }]⟩ G _ O (F.inner F.defers));rintro e B w' ⟨ex,s',k,o,i,m⟩;split at m
  case h_2=>cases m
  rename_i W;simp only [aA,ju] at W;obtain ⟨p,U⟩:=W;obtain ⟨hext,o1,o2,o3,o4⟩:=F.outer rfl i p U;have hI4:Inv fn.ntmps ι0 ⟨w,[{ target:=.fn (.func J) I,args:=#[] }]⟩ k { s' with lo:=s2.lo,rb:=s2.rb } B w':=
   ⟨i.size,i.defers,i.tmps,i.mem,o1,o2,by show Fr (roI ι0 s'.ro) w w';rw [p];exact o3,d.low,λb q hb hq=>by have:=o4 b q hb hq;simp only;omega,by show GL (roI ι0 s'.ro) w;rw [p];exact F.gl⟩
  have hcv:=VRs.mono hext _ _ hv2;have j:∀(v:V) (x:Value) (u u':FrameMode),VR k v x->u≠.run->(settle u'=.returning)->
    ((u=.returning/\u'=.returning/\x=.nilIface)\/∃y,u=.panicking [{ v:=y,recovered:=false }]/\u'=.panicking [{ v:=y,recovered:=true }]/\x=y)->
    zE P EC LC n.ntmps C tr cap v { s' with lo:=s2.lo,rb:=s2.rb } (λs=>finK P fn.results.toList K .ret s)=some z->
    Leaves P fn B.tmps (λe w'=>∃(pan:Bool) (u:V) (s:St) (ι:Inj),K pan u s=some z/\(∀b q,ι0 b=some q->ι b=some q\/s.rb<=b)/\(∀b q,ι b=some (some q)->(∃q',ι0 b=some (some q')/\q'.r=q.r)\/w.heap.size<=q.r)/\
     WR ι s.H s.nb w'/\(∀b q,ι b=some (some q)->q.fz=true->b<s.ro)/\Fr (roI ι0 s.ro) w w'/\RetR ι { val:=u,pan:=pan } e) B.defers u w':=by
   intro v x u u' hvx hur Q hu ha;rw [i.defers];refine leaves_cons hur (f:=J) (args:=I.toList.toArray) ?_ ?_
   ·have:=hEn I w';simpa [invoke] using this
   ·refine (Oe hEC hfC hbC hoR hgR hdR hres hcC hLC ha hI4 hcv hvx hu).mono ?_;rintro e u'' w'' ⟨rfl,y,s3,ι3,rfl,h4,h5,h6⟩;obtain ⟨v,Y,R⟩:=fin s3 ι3 B w'' h5 h4;simp only [Q];exact ⟨v,Y,R⟩
  cases ex with
  | normal=>simp only [ExR] at o;subst o;exact j .ni .nilIface .returning .returning (by simp [VR]) (by simp) rfl (.inl ⟨rfl,rfl,rfl⟩) m
  | ret=>simp only [ExR] at o;subst o;exact j .ni .nilIface .returning .returning (by simp [VR]) (by simp) rfl (.inl ⟨rfl,rfl,rfl⟩) m
  | exit id=>cases m
  | pan v=>
   obtain ⟨x,rfl,hx⟩:=o;exact j v x (.panicking [{ v:=x,recovered:=false }]) (.panicking [{ v:=x,recovered:=true }]) hx (by simp) (by simp [settle]) (.inr ⟨x,rfl,rfl,rfl⟩) m
 ·rintro ex s ι e a w1 hne o i m;cases ex with
  | normal=>exact absurd rfl hne
  | exit id=>simp [finK] at m
  | ret=>
   simp only [ExR] at o;subst o;obtain ⟨v,Y,R⟩:=fin s ι a w1 i m;show Leaves P fn a.tmps _ a.defers .returning w1;rw [i.defers];exact ⟨v,Y,R⟩
  | pan v=>
   obtain ⟨x,rfl,hx⟩:=o;show Leaves P fn a.tmps _ a.defers (.panicking _) w1;rw [i.defers];exact ⟨true,v,s,ι,m,i.ext,i.new,i.mem,i.fz,i.fr,rfl,x,rfl,hx⟩
def qy:Nat->AC->List AC
 | n+1,.seq a b=>a::qy n b
 | _,_=>[]
def kJ:Nat->AC->AC
 | n+1,.seq _ b=>kJ n b
 | _,c=>c
theorem vc:∀(n:Nat) (c:AC),E7 (qy n c) (kJ n c).code=c.code
 | 0,c=>by simp [qy,kJ,E7]
 | n+1,.seq a b=>by simp [qy,kJ,E7,vc n b,AC.code]
 | n+1,.skip | n+1,.ret | n+1,.exit _ | n+1,.cond _ _ _ | n+1,.block _ _ | n+1,.reg _ _ | n+1,.draw _ _ | n+1,.sub _ _ | n+1,.loop _ | n+1,.scope _ | n+1,.label _ | n+1,.bad _=>by
  simp [qy,kJ,E7]
def QR:AC->List Oper
 | .seq (.reg _ l) _=>l
 | _=>[]
def getO (l:List Oper) (i:Nat):Oper:=l.getD i default
theorem xj {n:Nat} {L:List Sub}:∀(k:Nat) (c:AC),jV P n L c->(∀x∈qy k c,jV P n L x)/\jV P n L (kJ k c)
 | 0,c,h=>⟨by simp [qy],by simpa [kJ] using h⟩
 | k+1,.seq a b,h=>by
  simp only [jV] at h;have:=xj k b h.2;exact ⟨λx hx=>by
   simp only [qy,dr] at hx;rcases hx with rfl | hx
   ·exact h.1
   ·exact this.1 x hx,by simpa [kJ] using this.2⟩
 | k+1,.skip,h | k+1,.ret,h | k+1,.exit _,h | k+1,.cond _ _ _,h | k+1,.block _ _,h | k+1,.reg _ _,h | k+1,.draw _ _,h | k+1,.sub _ _,h | k+1,.loop _,h | k+1,.scope _,h | k+1,.label _,h | k+1,.bad _,h=>by
  exact ⟨by simp [qy],by simpa [kJ] using h⟩
theorem Nx {α:Type} {E:List Ent} (F:∀x∈E,fH P x) {L:List Sub} {f:Nat} {fn:Func} {c:Code} {ac:AC} {k:Nat} {o1 oD:Oper} {g:Operand} {gid idD:Nat} {acB:AC} (H:P.funcs[f]?=some fn)
  (D:fn.body=some c) (s:ac.code=c) (e:kJ k ac=.seq (.reg idD [o1,oD]) acB) (G:jV P fn.ntmps L ac) (l:o1.guard=none) (n:oD.guard=none)
  (w:oD.op=.defer ⟨.value g,#[],#[]⟩) (t:oD.dst=none)
  {EC:List Ent} (u:∀x∈EC,fH P x) {C:List Sub} {b:Func} {B:Code} {a:AC} {idR:Nat} {oR:Oper} {tr:Nat} (r:P.funcs[gid]?=some b)
  (A:b.body=some B) (j:a.code=B) (i:kJ 0 a=.seq (.reg idR [oR]) (kJ 1 a)) (m:oR.op=.call ⟨.builtin .recover,#[],#[]⟩) (q:oR.guard=none) (o:oR.dst=some tr) (d:b.results=#[])
  (v:jV P b.ntmps C a) (y:kV P gid)
  {args:List V} {H0:List (Nat×Blk)} {nb0 ro rb:Nat} {K:Bool->V->St->Option α} {z:α} (I:Nat.ble args.length fn.ntmps=true)
  (h:SB P E L fn.ntmps (qy k ac) o1 g gid acB EC C b.ntmps (kJ 1 a) tr fn.results.toList K ⟨sW args 0,H0,nb0,nb0,ro,rb⟩=some z):AK P f args H0 nb0 ro K z:=by
 have hs:=xj k ac G;have p:jV P fn.ntmps L acB:=by
  have:=hs.2;rw [e] at this;simp only [jV] at this;exact this.2
 refine Pe F H D rfl (As:=qy k ac) (o1:=o1) (oD:=oD) (idD:=idD) (acB:=acB) ?_ hs.1 p l n w t u r (idR:=idR) (oR:=oR) (crest:=(kJ 1 a).code) ?_ m q o d rfl (xj 1 a v).2 y I h
 ·rw [<-s,<-vc k ac,e];rfl
 ·rw [A,<-j,<-vc 0 a,i];rfl
end Go.Abs
