
import Derived.Test.YtibehcmomiplnaaGreatDoorAbsP
import Derived.Recover
set_option linter.unusedSimpArgs false
set_option linter.unusedVariables false
set_option linter.defProp false
namespace Go.Abs
variable {P:Program}
def runL{α:Type}(P:Program)(E:List Ent)(L:List Sub)(n:Nat)(k:Ex->St->Option α):List AC->St->Option α
 | [],s=>k .normal s
 | a::l,s=>run P E L n a s λex s=>match ex with
  | .normal=>runL P E L n k l s
  | .exit id=>k (.exit id) s
  | .ret=>k .ret s
  | .pan v=>k (.pan v) s
def AV{α:Type}(P:Program)(E:List Ent)(L:List Sub)(c:Nat)(b:AC)(tr:Nat)(cap:List V)(v:V)(s:St)(k:St->Option α):Option α:=
 match Nat.blt tr c&&(Nat.ble cap.length c&&Nat.ble cap.length tr)with
 | true=>run P E L c b ⟨(tr,some v)::tP cap 0,s.H,s.nb,s.nb,s.ro,s.nb⟩ λex a=>match Nat.beq a.ro s.ro&&Nat.beq a.rb s.nb with
  | true=>match ex with
   | .normal=>k { s with H:=a.H,nb:=a.nb }
   | .ret=>k { s with H:=a.H,nb:=a.nb }
   | .exit _=>none
   | .pan _=>none
  | false=>none
 | false=>none
def U9{α:Type}(P:Program)(E:List Ent)(L:List Sub)(n:Nat)(As:List AC)(o1:Oper)(g:Operand)(gid:Nat)(acB:AC)(EC:List Ent)(d:List Sub)(c:Nat)(a:AC)(tr:Nat)
  (b:List ResultVar) (K:Bool->V->St->Option α) (s:St):Option α:=
 runL P E L n (λex s=>match ex with
  | .normal=>LJ P E n s.nb o1 s (λs=>match opd s.T g with
   | some (.fn f cap)=>match Nat.beq f gid&&Nat.blt f 1000000 with
    | true=>run P E L n acB { s with lo:=s.nb,rb:=s.nb } λex s'=>match Nat.beq s'.ro s.ro&&Nat.beq s'.rb s.nb with
     | true=>match ex with
      | .normal=>AV P EC d c a tr cap .ni { s' with lo:=s.lo,rb:=s.rb } λs=>finK P b K .ret s
      | .ret=>AV P EC d c a tr cap .ni { s' with lo:=s.lo,rb:=s.rb } λs=>finK P b K .ret s
      | .pan v=>AV P EC d c a tr cap v { s' with lo:=s.lo,rb:=s.rb } λs=>finK P b K .ret s
      | .exit _=>none
     | false=>none
    | false=>none
   | _=>none) (λ_ _=>none)
  | .exit id=>finK P b K (.exit id) s
  | .ret=>finK P b K .ret s
  | .pan v=>finK P b K (.pan v) s) As s
def FK:List AC->Code->Code
 | [],c=>c
 | a::l,c=>.seq a.code (FK l c)
def Ov {α:Type} {E:List Ent} (o:∀x∈E,fQ P x) {L:List Sub} {n:Nat} {k:Ex->St->Option α} {z:α} {c:Code} {ι0:Inj} {w0:Base} {Q:Exit->Act->World->Prop}
  (p:∀s ι a w,Inv n ι0 w0 ι s a w->k .normal s=some z->c.wp P Q a w)
  (i:∀ex s ι e a w,ex≠.normal->ExR ι ex e->Inv n ι0 w0 ι s a w->k ex s=some z->Q e a w):∀(As:List AC) (s:St) (ι:Inj) (a:Act) (w:World),(∀x∈As,kw P n L x)->
   Inv n ι0 w0 ι s a w->runL P E L n k As s=some z->(FK As c).wp P Q a w
 | [],s,ι,a,w,_,m,h=>p s ι a w m h
 | x::l,s,ι,a,w,hs,m,h=>by
  simp only [runL] at h;refine wp_seq (wp_mono (pU o x s _ z (hs x (by simp)) h ι0 w0 ι a w m) ?_);rintro e j w' ⟨ex,s',b,d,g,f⟩;cases ex with
  | normal=>simp only [ExR] at d;subst d;exact Ov o p i l s' b j w' (λy hy=>hs y (fV _ hy)) g f
  | exit id=>simp only [ExR] at d;subst d;exact i (.exit id) s' b _ j w' (by simp) rfl g f
  | ret=>simp only [ExR] at d;subst d;exact i .ret s' b _ j w' (by simp) rfl g f
  | pan v=>obtain ⟨y,rfl,hx⟩:=d;exact i (.pan v) s' b _ j w' (by simp) ⟨y,rfl,hx⟩ g f
def Inv.inner{n:Nat}{ι0 ι:Inj}{w0:Base}{s:St}{a:Act}{w:World}{D:List Deferred}(C:Inv n ι0 w0 ι s a w)(F:a.defers=D):Inv n ι ⟨w,D⟩ ι { s with lo:=s.nb,rb:=s.nb } a w:=
 ⟨C.size,F,C.tmps,C.mem,λ_ _ h=>.inl h,λ_ q h=>.inl ⟨q,h,rfl⟩,Fr.refl _ _,λb r h=>C.mem.low b r h,C.fz,C.glHere λ_ _ E=>⟨qT E,NR E⟩⟩
def Inv.outer {n n':Nat} {ι0 ι E:Inj} {w0 w1:Base} {s s':St} {a a':Act} {w w':World} (Q:Inv n ι0 w0 ι s a w) (hw:w1.w=w) (F:Inv n' ι w1 E s' a' w') (U:s'.ro=s.ro) (hrb:s'.rb=s.nb):
  (∀b q,ι b=some q->E b=some q)/\(∀b q,ι0 b=some q->E b=some q\/s.rb<=b)/\(∀b q,E b=some (some q)->(∃O,ι0 b=some (some O)/\O.r=q.r)\/w0.w.heap.size<=q.r)/\Fr (roI ι0 s.ro) w0.w w'/\
   (∀b q,E b=some (some q)->q.fz=true->b<s.ro):=by
 subst hw;have G:∀b q,ι b=some q->E b=some q:=by
  intro b q C;rcases F.ext b q C with h | h
  ·exact h
  ·have:=Q.mem.low b q C;omega
 refine ⟨G,λb q C=>(Q.ext b q C).imp (G b q) id,λb q C=>?_,Q.fr.trans (λb q C=>?_) F.fr,λb q C hq=>by have:=F.fz b q C hq;omega⟩
 ·rcases F.new b q C with ⟨O,Y,W⟩ | h
  ·rw [<-W];exact Q.new b O Y
  ·exact .inr (rK Q.fr.size h)
 ·have Z:=qT C;have X:s.ro<=b:=by
   rw [U] at C;unfold roI at C;cases J:Nat.blt b s.ro with
   | true=>simp [J] at C
   | false=>
    rcases aN b s.ro with h | h
    ·rw [show Nat.blt b s.ro=true from cr h] at J;cases J
    ·exact h
  exact (Q.new b q Z).imp (λ⟨O,h,W⟩=>⟨O,DK h X,W⟩) id
def Lc{α:Type}{E:List Ent}(hE:∀x∈E,fQ P x){L:List Sub}{g:Nat}{fn:Func}{m:AC}{idR:Nat}{oR:Oper}{tr:Nat}{crest:Code}(hf:P.funcs[g]?=some fn)
  (hb:fn.body=some (.seq (.region idR #[oR] false) crest)) (hoR:oR.op=.call ⟨.builtin .recover,#[],#[]⟩) (hgR:oR.guard=none) (hdR:oR.dst=some tr) (S:fn.results=#[]) (hc:m.code=crest)
  (hL:kw P fn.ntmps L m) {cap:List V} {v:V} {s:St} {k:St->Option α} {z:α} (h:AV P E L fn.ntmps m tr cap v s k=some z)
  {n:Nat} {ι0 ι:Inj} {w0:Base} {a:Act} {w:World} (j:Inv n ι0 w0 ι s a w) {i:List Value} (o:VRs ι cap i) {x:Value} (hx:VR ι v x) {u A:FrameMode}
  (hu:(u=.returning/\A=.returning/\x=.nilIface)\/∃y,u=.panicking [{ v:=y,recovered:=false }]/\A=.panicking [{ v:=y,recovered:=true }]/\x=y):
  CallsD P g i.toArray u w λe D w'=>D=A/\∃(y:Value) (s':St) (J:Inj),e=.returned y/\k s'=some z/\Inv n ι0 w0 J s' a w'/\s'.T=s.T:=by
 unfold AV at h;split at h
 case h_2=>cases h
 rename_i f;simp only[aA]at f;have htr:tr<fn.ntmps:=aM f.1;have hcl:cap.length<=fn.ntmps:=aM f.2.1;have hct:cap.length<=tr:=aM f.2.2;have hlen:i.length=cap.length:=o.length;refine callsD_of_wpS hf hb λd Q K=>?_;have Y:∀a:Act,(execOp a.eval oR).run P w=.ok .recover w:=by
  intro a;simp[execOp,hoR,resolve,invoke,builtin]
 have p:∀G:List Frame,G={ d with mode:=A }::Q->
   crest.wpS P (bodyPostS P fn d Q λe D w'=>D=A/\∃(y:Value) (s':St) (J:Inj),e=.returned y/\k s'=some z/\Inv n ι0 w0 J s' a w'/\s'.T=s.T)
    (({ tmps:=i.toArray++Array.replicate (fn.ntmps - i.toArray.size) undef,defers:=[] }:Act).put oR.dst x) G w:=by
  intro G hfs;have hI2:Inv fn.ntmps ι ⟨w,[]⟩ ι ⟨(tr,some v)::tP cap 0,s.H,s.nb,s.nb,s.ro,s.nb⟩ (({ tmps:=i.toArray++Array.replicate (fn.ntmps - i.toArray.size) undef,defers:=[] }:Act).put oR.dst x) w:=by
   refine⟨by rw[nM];simp;omega,by rw[jU],?_,j.mem,λ_ _ h=>.inl h,λ_ q h=>.inl ⟨q,h,rfl⟩,Fr.refl _ _,λb r h=>j.mem.low b r h,j.fz,j.glHere λ_ _ hb=>⟨qT hb,NR hb⟩⟩;rw[hdR];refine TR.put (λt u Z=>?_) (by simp;omega) (λu hu=>by cases hu;exact hx);rw[sQ,af (iK _)]at Z;simp only[tX]at Z;cases hl:cap[t]? with
   | none=>simp[hl]at Z
   | some u=>
    simp only[hl,fm,ar]at Z;subst Z;obtain⟨x,M,N⟩:=o.get hl;have h1':i.toArray[t]?=some x:=by simpa using M
    have hlt:t<i.toArray.size:=by
     rcases aN t i.toArray.size with h' | h'
     ·exact h'
     ·rw[wo h']at h1';cases h1'
    exact⟨x,by rw[Vg hlt];exact h1',N⟩
  subst hc hfs;refine wpS_of_wp (uV ?_ (pU hE m _ _ z hL h ι ⟨w,[]⟩ ι _ w hI2));rintro e a' w' ⟨ex,s2,F,M,N,O⟩;split at O
  case h_2=>cases O
  rename_i U;simp only[aA,jB]at U;obtain⟨W,X⟩:=U;obtain⟨R,o1,o2,o3,o4⟩:=j.outer rfl N W X;have B:Inv n ι0 w0 F { s with H:=s2.H,nb:=s2.nb } a w':=⟨j.size,j.defers,j.tmps.mono R,N.mem,o1,o2,o3,j.low,o4,j.gl⟩;have c:(results fn a'.tmps).run P w'=.ok (.tuple #[]) w':=by
   rw[Aq,S];simp[aE]
  cases ex with
  | normal=>simp only[ExR]at M;subst M;exact⟨N.defers,A,rfl,_,c,rfl,_,_,F,rfl,O,B,rfl⟩
  | ret=>simp only[ExR]at M;subst M;exact⟨N.defers,A,rfl,_,c,rfl,_,_,F,rfl,O,B,rfl⟩
  | exit id=>cases O
  | pan v=>cases O
 refine wpS_seq (wpS_region ?_);show wpOpsS P #[oR] _ [0] _ _ w;simp only[wpOpsS];have h0:(#[oR]:Array Oper)[0]?=some oR:=rfl;rw[h0];simp only;have hw:∀y,Region.wanted oR y=true:=λy=>by simp[Region.wanted,hgR]
 rw[hw];simp only[aQ,Y];rcases hu with⟨l,C,I⟩ | ⟨y,l,C,I⟩
 ·subst I;have:recoverD (d::Q)=none:=by simp[recoverD,K,l]
  rw[this];exact p _ (by rw[C,<-l,<-K])
 ·subst I;have:recoverD (d::Q)=some (x,{ d with mode:=A }::Q):=by simp[recoverD,K,l,C]
  rw[this];exact p _ rfl
def RQ{α:Type}{E:List Ent}(hE:∀x∈E,fQ P x){L:List Sub}{f:Nat}{fn:Func}{c:Code}{As:List AC}{o1 oD:Oper}{g:Operand}{gid idD:Nat}{acB:AC}{cB:Code}(hf:P.funcs[f]?=some fn)
  (Y:fn.body=some c) (hcB:acB.code=cB) (hc:FK As (.seq (.region idD #[o1,oD] false) cB)=c) (hLA:∀x∈As,kw P fn.ntmps L x) (hLB:kw P fn.ntmps L acB) (hg1:o1.guard=none) (hgD:oD.guard=none)
  (hoD:oD.op=.defer ⟨.value g,#[],#[]⟩) (hdD:oD.dst=none)
  {EC:List Ent} (hEC:∀x∈EC,fQ P x) {LC:List Sub} {m:Func} {C:AC} {idR:Nat} {oR:Oper} {tr:Nat} {crest:Code} (hfC:P.funcs[gid]?=some m)
  (hbC:m.body=some (.seq (.region idR #[oR] false) crest)) (hoR:oR.op=.call ⟨.builtin .recover,#[],#[]⟩) (hgR:oR.guard=none) (hdR:oR.dst=some tr) (hres:m.results=#[]) (hcC:C.code=crest)
  (hLC:kw P m.ntmps LC C) (hEn:lC P gid)
  {args:List V} {H0:List (Nat×Blk)} {nb0 ro rb:Nat} {K:Bool->V->St->Option α} {z:α} (hn:Nat.ble args.length fn.ntmps=true)
  (h:U9 P E L fn.ntmps As o1 g gid acB EC LC m.ntmps C tr fn.results.toList K ⟨tP args 0,H0,nb0,nb0,ro,rb⟩=some z):Ba P f args H0 nb0 ro K z:=by
 intro ι0 w J hW hfz hgl hx;have hlen:J.size=args.length:=by simpa using hx.length
 have hn:=aM hn;refine calls_of_wp_defers hf Y ?_;rw[<-hc];have hI:Inv fn.ntmps ι0 ⟨w,[]⟩ ι0 ⟨tP args 0,H0,nb0,nb0,ro,rb⟩ { tmps:=J++Array.replicate (fn.ntmps - J.size) undef,defers:=[] } w:=by
  refine⟨by simp;omega,rfl,λt v hv=>?_,hW,λ_ _ h=>.inl h,λ_ q h=>.inl ⟨q,h,rfl⟩,Fr.refl _ _,λb r h=>hW.low b r h,hfz,hgl⟩;rw[sQ,af (iK _)]at hv;simp only[tX]at hv;cases hl:args[t]? with
  | none=>simp[hl]at hv
  | some u=>
   simp only[hl,fm,ar]at hv;subst hv;obtain⟨x,p,i⟩:=hx.get hl;have h1':J[t]?=some x:=by simpa using p
   have hlt:t<J.size:=by
    rcases aN t J.size with h' | h'
    ·exact h'
    ·rw[wo h']at h1';cases h1'
   exact⟨x,by rw[Vg hlt];exact h1',i⟩
 have fin:∀{D:List Deferred} (s':St) (k:Inj) (F:Act) (w':World),Inv fn.ntmps ι0 ⟨w,D⟩ k s' F w'->finK P fn.results.toList K .ret s'=some z->
   ∃v,(results fn F.tmps).run P w'=.ok v w'/\∃(pan:Bool) (u:V) (s:St) (ι:Inj),K pan u s=some z/\(∀b q,ι0 b=some q->ι b=some q\/s.rb<=b)/\(∀b q,ι b=some (some q)->(∃S,ι0 b=some (some S)/\S.r=q.r)\/w.heap.size<=q.r)/\
   WR ι s.H s.nb w'/\(∀b q,ι b=some (some q)->q.fz=true->b<s.ro)/\Fr (roI ι0 s.ro) w w'/\RetR ι { val:=u,pan:=pan } (.returned v):=by
  intro D s' k F w' i n;simp only[finK]at n;obtain⟨v,x,Z,g2,g3⟩:=Ak (fn:=fn) (c:=λv=>K false v s') i n;exact⟨x,g3,false,v,s',k,Z,i.ext,i.new,i.mem,i.fz,i.fr,rfl,g2⟩
 refine Ov hE ?_ ?_ As _ ι0 _ w hLA hI h
 ·
  intro s ι a w1 X hk;simp only at hk;refine wp_seq (wp_region_lit (l:=[o1,oD]) ?_);unfold wpList;have hw1:∀y,Region.wanted o1 y=true:=λy=>by simp[Region.wanted,hg1]
  have hwD:∀y,Region.wanted oD y=true:=λy=>by simp[Region.wanted,hgD]
  rw[hw1];simp only[aQ];refine .inl (BL hE X (λb Y=>X.fresh b Y) (bg _) hk (λT G a2 N A d=>?_) (λv s' k x F w' hk=>by cases hk));split at A
  case h_2=>cases A
  rename_i M cap hgo;split at A
  case h_2=>cases A
  rename_i hff;simp only[aA,jB]at hff;obtain⟨W,U⟩:=hff;subst W;obtain⟨I,hv1,hv2⟩:=S0 d.tmps hgo;rw[GG U]at hv1;unfold wpList;rw[hwD];simp only[aQ];refine .inl ?_;unfold Oper.wp;have O:(execOp a2.eval oD).run P N=.ok (.defer { target:=.fn (.func M) I,args:=#[] }) N:=by
   simp only[execOp,hoD,resolve,hv1,Deferred.ofValue,ay,aE,aB];simp
  rw[O,Oper.upon_defer,hdD];simp only[Act.put];unfold wpList;simp only[Exit.then];have B:Inv fn.ntmps ι0 ⟨w,[{ target:=.fn (.func M) I,args:=#[] }]⟩ G T { a2 with defers:={ target:=.fn (.func M) I,args:=#[] }::a2.defers } N:=
   ⟨d.size,by rw[d.defers],d.tmps,d.mem,d.ext,d.new,d.fr,d.low,d.fz,d.gl⟩
  subst hcB;refine uV ?_ (pU hE acB _ _ z hLB A G ⟨N,[{ target:=.fn (.func M) I,args:=#[] }]⟩ G _ N (B.inner B.defers));rintro e F w' ⟨ex,s',k,p,i,n⟩;split at n
  case h_2=>cases n
  rename_i hro;simp only[aA,jB]at hro;obtain⟨o,hro2⟩:=hro;obtain⟨Q,o1,o2,o3,o4⟩:=B.outer rfl i o hro2;have hI4:Inv fn.ntmps ι0 ⟨w,[{ target:=.fn (.func M) I,args:=#[] }]⟩ k { s' with lo:=T.lo,rb:=T.rb } F w':=
   ⟨i.size,i.defers,i.tmps,i.mem,o1,o2,by show Fr (roI ι0 s'.ro) w w';rw[o];exact o3,d.low,λb q Y hq=>by have:=o4 b q Y hq;simp only;omega,by show GL (roI ι0 s'.ro) w;rw[o];exact B.gl⟩
  have hcv:=VRs.mono Q _ _ hv2;have j:∀(v:V) (x:Value) (u u':FrameMode),VR k v x->u≠.run->(settle u'=.returning)->
    ((u=.returning/\u'=.returning/\x=.nilIface)\/∃y,u=.panicking [{ v:=y,recovered:=false }]/\u'=.panicking [{ v:=y,recovered:=true }]/\x=y)->
    AV P EC LC m.ntmps C tr cap v { s' with lo:=T.lo,rb:=T.rb } (λs=>finK P fn.results.toList K .ret s)=some z->
    Leaves P fn F.tmps (λe w'=>∃(pan:Bool) (u:V) (s:St) (ι:Inj),K pan u s=some z/\(∀b q,ι0 b=some q->ι b=some q\/s.rb<=b)/\(∀b q,ι b=some (some q)->(∃S,ι0 b=some (some S)/\S.r=q.r)\/w.heap.size<=q.r)/\
     WR ι s.H s.nb w'/\(∀b q,ι b=some (some q)->q.fz=true->b<s.ro)/\Fr (roI ι0 s.ro) w w'/\RetR ι { val:=u,pan:=pan } e) F.defers u w':=by
   intro v x u u' hvx hur R hu ha;rw[i.defers];refine leaves_cons hur (f:=M) (args:=I.toList.toArray) ?_ ?_
   ·have:=hEn I w';simpa[invoke]using this
   ·refine(Lc hEC hfC hbC hoR hgR hdR hres hcC hLC ha hI4 hcv hvx hu).mono ?_;rintro e u'' w'' ⟨rfl,y,s3,ι3,rfl,h4,h5,h6⟩;obtain⟨v,Z,g2⟩:=fin s3 ι3 F w'' h5 h4;simp only[R];exact⟨v,Z,g2⟩
  cases ex with
  | normal=>simp only[ExR]at p;subst p;exact j .ni .nilIface .returning .returning (by simp[VR]) (by simp) rfl (.inl ⟨rfl,rfl,rfl⟩) n
  | ret=>simp only[ExR]at p;subst p;exact j .ni .nilIface .returning .returning (by simp[VR]) (by simp) rfl (.inl ⟨rfl,rfl,rfl⟩) n
  | exit id=>cases n
  | pan v=>
   obtain⟨x,rfl,hx⟩:=p;exact j v x (.panicking [{ v:=x,recovered:=false }]) (.panicking [{ v:=x,recovered:=true }]) hx (by simp) (by simp[settle]) (.inr ⟨x,rfl,rfl,rfl⟩) n
 ·rintro ex s ι e a w1 hne p i n;cases ex with
  | normal=>exact absurd rfl hne
  | exit id=>simp[finK]at n
  | ret=>
   simp only[ExR]at p;subst p;obtain⟨v,Z,g2⟩:=fin s ι a w1 i n;show Leaves P fn a.tmps _ a.defers .returning w1;rw[i.defers];exact⟨v,Z,g2⟩
  | pan v=>
   obtain⟨x,rfl,hx⟩:=p;show Leaves P fn a.tmps _ a.defers (.panicking _) w1;rw[i.defers];exact⟨true,v,s,ι,n,i.ext,i.new,i.mem,i.fz,i.fr,rfl,x,rfl,hx⟩
def re:Nat->AC->List AC
 | n+1,.seq a b=>a::re n b
 | _,_=>[]
def kT:Nat->AC->AC
 | n+1,.seq _ b=>kT n b
 | _,c=>c
def vH:∀(n:Nat) (c:AC),FK (re n c) (kT n c).code=c.code
 | 0,c=>by simp[re,kT,FK]
 | n+1,.seq a b=>by simp[re,kT,FK,vH n b,AC.code]
 | n+1,.skip | n+1,.ret | n+1,.exit _ | n+1,.cond _ _ _ | n+1,.block _ _ | n+1,.reg _ _ | n+1,.draw _ _ | n+1,.sub _ _ | n+1,.loop _ | n+1,.scope _ | n+1,.label _ | n+1,.bad _=>by
  simp[re,kT,FK]
def R2:AC->List Oper
 | .seq (.reg _ l) _=>l
 | _=>[]
def getO(l:List Oper)(i:Nat):Oper:=l.getD i default
def ya{n:Nat}{L:List Sub}:∀(k:Nat) (c:AC),kw P n L c->(∀x∈re k c,kw P n L x)/\kw P n L (kT k c)
 | 0,c,h=>⟨by simp[re],by simpa[kT]using h⟩
 | k+1,.seq a b,h=>by
  simp only[kw]at h;have:=ya k b h.2;exact⟨λx hx=>by
   simp only[re,cN]at hx;rcases hx with rfl | hx
   ·exact h.1
   ·exact this.1 x hx,by simpa[kT]using this.2⟩
 | k+1,.skip,h | k+1,.ret,h | k+1,.exit _,h | k+1,.cond _ _ _,h | k+1,.block _ _,h | k+1,.reg _ _,h | k+1,.draw _ _,h | k+1,.sub _ _,h | k+1,.loop _,h | k+1,.scope _,h | k+1,.label _,h | k+1,.bad _,h=>by
  exact⟨by simp[re],by simpa[kT]using h⟩
def Ob{α:Type}{E:List Ent}(H:∀x∈E,fQ P x){L:List Sub}{f:Nat}{fn:Func}{c:Code}{ac:AC}{k:Nat}{o1 oD:Oper}{g:Operand}{gid idD:Nat}{acB:AC}(G:P.funcs[f]?=some fn)
  (D:fn.body=some c) (y:ac.code=c) (e:kT k ac=.seq (.reg idD [o1,oD]) acB) (I:kw P fn.ntmps L ac) (A:o1.guard=none) (n:oD.guard=none)
  (q:oD.op=.defer ⟨.value g,#[],#[]⟩) (m:oD.dst=none)
  {EC:List Ent} (l:∀x∈EC,fQ P x) {C:List Sub} {b:Func} {B:Code} {a:AC} {idR:Nat} {oR:Oper} {tr:Nat} (s:P.funcs[gid]?=some b)
  (w:b.body=some B) (u:a.code=B) (i:kT 0 a=.seq (.reg idR [oR]) (kT 1 a)) (p:oR.op=.call ⟨.builtin .recover,#[],#[]⟩) (t:oR.guard=none) (r:oR.dst=some tr) (d:b.results=#[])
  (v:kw P b.ntmps C a) (j:lC P gid)
  {args:List V} {H0:List (Nat×Blk)} {nb0 ro rb:Nat} {K:Bool->V->St->Option α} {z:α} (F:Nat.ble args.length fn.ntmps=true)
  (h:U9 P E L fn.ntmps (re k ac) o1 g gid acB EC C b.ntmps (kT 1 a) tr fn.results.toList K ⟨tP args 0,H0,nb0,nb0,ro,rb⟩=some z):Ba P f args H0 nb0 ro K z:=by
 have hs:=ya k ac I;have o:kw P fn.ntmps L acB:=by
  have:=hs.2;rw[e]at this;simp only[kw]at this;exact this.2
 refine RQ H G D rfl (As:=re k ac) (o1:=o1) (oD:=oD) (idD:=idD) (acB:=acB) ?_ hs.1 o A n q m l s (idR:=idR) (oR:=oR) (crest:=(kT 1 a).code) ?_ p t r d rfl (ya 1 a v).2 j F h
 ·rw[<-y,<-vH k ac,e];rfl
 ·rw[w,<-u,<-vH 0 a,i];rfl
end Go.Abs
