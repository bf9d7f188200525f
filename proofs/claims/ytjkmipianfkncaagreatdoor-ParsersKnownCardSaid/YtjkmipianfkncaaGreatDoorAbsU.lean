
import Derived.Test.YtjkmipianfkncaaGreatDoorAbsP
import Derived.Recover
set_option linter.unusedSimpArgs false
set_option linter.unusedVariables false
set_option linter.defProp false
namespace Go.Abs
variable {P:Program}
def runL{α:Type}(P:Program)(E:List Ent)(L:List Sub)(n:Nat)(k:Ex->St->Option α):List AC->St->Option α
 | [],s=>k .normal s
 | a::l,s=>run P E L n a s λex s=>match ex with
  | .normal=>runL P E L n k l s
  | .exit id=>k (.exit id) s
  | .ret=>k .ret s
  | .pan v=>k (.pan v) s
def zp{α:Type}(P:Program)(E:List Ent)(L:List Sub)(b:Nat)(c:AC)(tr:Nat)(cap:List V)(v:V)(s:St)(k:St->Option α):Option α:=
 match Nat.blt tr b&&(Nat.ble cap.length b&&Nat.ble cap.length tr)with
 | true=>run P E L b c ⟨(tr,some v)::si cap 0,s.H,s.nb,s.nb,s.ro,s.nb⟩ λex a=>match Nat.beq a.ro s.ro&&Nat.beq a.rb s.nb with
  | true=>match ex with
   | .normal=>k { s with H:=a.H,nb:=a.nb }
   | .ret=>k { s with H:=a.H,nb:=a.nb }
   | .exit _=>none
   | .pan _=>none
  | false=>none
 | false=>none
def Rx{α:Type}(P:Program)(E:List Ent)(L:List Sub)(n:Nat)(As:List AC)(o1:Oper)(g:Operand)(gid:Nat)(acB:AC)(EC:List Ent)(d:List Sub)(c:Nat)(a:AC)(tr:Nat)
  (b:List ResultVar) (K:Bool->V->St->Option α) (s:St):Option α:=
 runL P E L n (λex s=>match ex with
  | .normal=>KR P E n s.nb o1 s (λs=>match opd s.T g with
   | some (.fn f cap)=>match Nat.beq f gid&&Nat.blt f 1000000 with
    | true=>run P E L n acB { s with lo:=s.nb,rb:=s.nb } λex s'=>match Nat.beq s'.ro s.ro&&Nat.beq s'.rb s.nb with
     | true=>match ex with
      | .normal=>zp P EC d c a tr cap .ni { s' with lo:=s.lo,rb:=s.rb } λs=>finK P b K .ret s
      | .ret=>zp P EC d c a tr cap .ni { s' with lo:=s.lo,rb:=s.rb } λs=>finK P b K .ret s
      | .pan v=>zp P EC d c a tr cap v { s' with lo:=s.lo,rb:=s.rb } λs=>finK P b K .ret s
      | .exit _=>none
     | false=>none
    | false=>none
   | _=>none) (λ_ _=>none)
  | .exit id=>finK P b K (.exit id) s
  | .ret=>finK P b K .ret s
  | .pan v=>finK P b K (.pan v) s) As s
def Em:List AC->Code->Code
 | [],c=>c
 | a::l,c=>.seq a.code (Em l c)
def LR {α:Type} {E:List Ent} (p:∀x∈E,gg P x) {L:List Sub} {n:Nat} {k:Ex->St->Option α} {z:α} {c:Code} {ι0:Inj} {w0:Base} {Q:Exit->Act->World->Prop}
  (o:∀s ι a w,Inv n ι0 w0 ι s a w->k .normal s=some z->c.wp P Q a w)
  (j:∀ex s ι e a w,ex≠.normal->ExR ι ex e->Inv n ι0 w0 ι s a w->k ex s=some z->Q e a w):∀(As:List AC) (s:St) (ι:Inj) (a:Act) (w:World),(∀x∈As,jF P n L x)->
   Inv n ι0 w0 ι s a w->runL P E L n k As s=some z->(Em As c).wp P Q a w
 | [],s,ι,a,w,_,m,h=>o s ι a w m h
 | x::l,s,ι,a,w,hs,m,h=>by
  simp only [runL] at h;refine wp_seq (wp_mono (oI p x s _ z (hs x (by simp)) h ι0 w0 ι a w m) ?_);rintro e g w' ⟨ex,s',b,d,i,f⟩;cases ex with
  | normal=>simp only [ExR] at d;subst d;exact LR p o j l s' b g w' (λy hy=>hs y (gm _ hy)) i f
  | exit id=>simp only [ExR] at d;subst d;exact j (.exit id) s' b _ g w' (by simp) rfl i f
  | ret=>simp only [ExR] at d;subst d;exact j .ret s' b _ g w' (by simp) rfl i f
  | pan v=>obtain ⟨y,rfl,hx⟩:=d;exact j (.pan v) s' b _ g w' (by simp) ⟨y,rfl,hx⟩ i f
def Inv.inner{n:Nat}{ι0 ι:Inj}{w0:Base}{s:St}{a:Act}{w:World}{D:List Deferred}(C:Inv n ι0 w0 ι s a w)(F:a.defers=D):Inv n ι ⟨w,D⟩ ι { s with lo:=s.nb,rb:=s.nb } a w:=
 ⟨C.size,F,C.tmps,C.mem,λ_ _ h=>.inl h,λ_ q h=>.inl ⟨q,h,rfl⟩,Fr.refl _ _,λb r h=>C.mem.low b r h,C.fz,C.glHere λ_ _ E=>⟨pI E,Nw E⟩⟩
def Inv.outer {n n':Nat} {ι0 ι C:Inj} {w0 w1:Base} {s s':St} {a a':Act} {w w':World} (Q:Inv n ι0 w0 ι s a w) (hw:w1.w=w) (F:Inv n' ι w1 C s' a' w') (Z:s'.ro=s.ro) (hrb:s'.rb=s.nb):
  (∀b q,ι b=some q->C b=some q)/\(∀b q,ι0 b=some q->C b=some q\/s.rb<=b)/\(∀b q,C b=some (some q)->(∃O,ι0 b=some (some O)/\O.r=q.r)\/w0.w.heap.size<=q.r)/\Fr (roI ι0 s.ro) w0.w w'/\
   (∀b q,C b=some (some q)->q.fz=true->b<s.ro):=by
 subst hw;have G:∀b q,ι b=some q->C b=some q:=by
  intro b q E;rcases F.ext b q E with h | h
  ·exact h
  ·have:=Q.mem.low b q E;omega
 refine ⟨G,λb q E=>(Q.ext b q E).imp (G b q) id,λb q E=>?_,Q.fr.trans (λb q E=>?_) F.fr,λb q E hq=>by have:=F.fz b q E hq;omega⟩
 ·rcases F.new b q E with ⟨O,W,Y⟩ | h
  ·rw [<-Y];exact Q.new b O W
  ·exact .inr (qu Q.fr.size h)
 ·have U:=pI E;have X:s.ro<=b:=by
   rw [Z] at E;unfold roI at E;cases J:Nat.blt b s.ro with
   | true=>simp [J] at E
   | false=>
    rcases aF b s.ro with h | h
    ·rw [show Nat.blt b s.ro=true from dT h] at J;cases J
    ·exact h
  exact (Q.new b q U).imp (λ⟨O,h,Y⟩=>⟨O,BQ h X,Y⟩) id
def MX{α:Type}{E:List Ent}(hE:∀x∈E,gg P x){L:List Sub}{g:Nat}{fn:Func}{m:AC}{idR:Nat}{oR:Oper}{tr:Nat}{crest:Code}(hf:P.funcs[g]?=some fn)
  (hb:fn.body=some (.seq (.region idR #[oR] false) crest)) (hoR:oR.op=.call ⟨.builtin .recover,#[],#[]⟩) (hgR:oR.guard=none) (hdR:oR.dst=some tr) (W:fn.results=#[]) (hc:m.code=crest)
  (hL:jF P fn.ntmps L m) {cap:List V} {v:V} {s:St} {k:St->Option α} {z:α} (h:zp P E L fn.ntmps m tr cap v s k=some z)
  {n:Nat} {ι0 ι:Inj} {w0:Base} {a:Act} {w:World} (i:Inv n ι0 w0 ι s a w) {j:List Value} (B:VRs ι cap j) {x:Value} (hx:VR ι v x) {u o:FrameMode}
  (hu:(u=.returning/\o=.returning/\x=.nilIface)\/∃y,u=.panicking [{ v:=y,recovered:=false }]/\o=.panicking [{ v:=y,recovered:=true }]/\x=y):
  CallsD P g j.toArray u w λe F w'=>F=o/\∃(y:Value) (s':St) (C:Inj),e=.returned y/\k s'=some z/\Inv n ι0 w0 C s' a w'/\s'.T=s.T:=by
 unfold zp at h;split at h
 case h_2=>cases h
 rename_i f;simp only[aC]at f;have htr:tr<fn.ntmps:=aH f.1;have hcl:cap.length<=fn.ntmps:=aH f.2.1;have hct:cap.length<=tr:=aH f.2.2;have hlen:j.length=cap.length:=B.length;refine callsD_of_wpS hf hb λd S G=>?_;have Q:∀a:Act,(execOp a.eval oR).run P w=.ok .recover w:=by
  intro a;simp[execOp,hoR,resolve,invoke,builtin]
 have A:∀K:List Frame,K={ d with mode:=o }::S->
   crest.wpS P (bodyPostS P fn d S λe F w'=>F=o/\∃(y:Value) (s':St) (C:Inj),e=.returned y/\k s'=some z/\Inv n ι0 w0 C s' a w'/\s'.T=s.T)
    (({ tmps:=j.toArray++Array.replicate (fn.ntmps - j.toArray.size) undef,defers:=[] }:Act).put oR.dst x) K w:=by
  intro K hfs;have hI2:Inv fn.ntmps ι ⟨w,[]⟩ ι ⟨(tr,some v)::si cap 0,s.H,s.nb,s.nb,s.ro,s.nb⟩ (({ tmps:=j.toArray++Array.replicate (fn.ntmps - j.toArray.size) undef,defers:=[] }:Act).put oR.dst x) w:=by
   refine⟨by rw[mZ];simp;omega,by rw[jr],?_,i.mem,λ_ _ h=>.inl h,λ_ q h=>.inl ⟨q,h,rfl⟩,Fr.refl _ _,λb r h=>i.mem.low b r h,i.fz,i.glHere λ_ _ hb=>⟨pI hb,Nw hb⟩⟩;rw[hdR];refine TR.put (λt u U=>?_) (by simp;omega) (λu hu=>by cases hu;exact hx);rw[rz,ae (du _)]at U;simp only[pL]at U;cases hl:cap[t]? with
   | none=>simp[hl]at U
   | some u=>
    simp only[hl,fi,ar]at U;subst U;obtain⟨x,O,N⟩:=B.get hl;have h1':j.toArray[t]?=some x:=by simpa using O
    have hlt:t<j.toArray.size:=by
     rcases aF t j.toArray.size with h' | h'
     ·exact h'
     ·rw[xO h']at h1';cases h1'
    exact⟨x,by rw[RE hlt];exact h1',N⟩
  subst hc hfs;refine wpS_of_wp (tC ?_ (oI hE m _ _ z hL h ι ⟨w,[]⟩ ι _ w hI2));rintro e a' w' ⟨ex,s2,D,O,N,M⟩;split at M
  case h_2=>cases M
  rename_i X;simp only[aC,jn]at X;obtain⟨R,Y⟩:=X;obtain⟨Z,o1,o2,o3,o4⟩:=i.outer rfl N R Y;have p:Inv n ι0 w0 D { s with H:=s2.H,nb:=s2.nb } a w':=⟨i.size,i.defers,i.tmps.mono Z,N.mem,o1,o2,o3,i.low,o4,i.gl⟩;have c:(results fn a'.tmps).run P w'=.ok (.tuple #[]) w':=by
   rw[zJ,W];simp[aB]
  cases ex with
  | normal=>simp only[ExR]at O;subst O;exact⟨N.defers,o,rfl,_,c,rfl,_,_,D,rfl,M,p,rfl⟩
  | ret=>simp only[ExR]at O;subst O;exact⟨N.defers,o,rfl,_,c,rfl,_,_,D,rfl,M,p,rfl⟩
  | exit id=>cases M
  | pan v=>cases M
 refine wpS_seq (wpS_region ?_);show wpOpsS P #[oR] _ [0] _ _ w;simp only[wpOpsS];have h0:(#[oR]:Array Oper)[0]?=some oR:=rfl;rw[h0];simp only;have hw:∀y,Region.wanted oR y=true:=λy=>by simp[Region.wanted,hgR]
 rw[hw];simp only[aG,Q];rcases hu with⟨l,J,I⟩ | ⟨y,l,J,I⟩
 ·subst I;have:recoverD (d::S)=none:=by simp[recoverD,G,l]
  rw[this];exact A _ (by rw[J,<-l,<-G])
 ·subst I;have:recoverD (d::S)=some (x,{ d with mode:=o }::S):=by simp[recoverD,G,l,J]
  rw[this];exact A _ rfl
def Oo{α:Type}{E:List Ent}(hE:∀x∈E,gg P x){L:List Sub}{f:Nat}{fn:Func}{c:Code}{As:List AC}{o1 oD:Oper}{g:Operand}{gid idD:Nat}{acB:AC}{cB:Code}(hf:P.funcs[f]?=some fn)
  (hb:fn.body=some c) (hcB:acB.code=cB) (hc:Em As (.seq (.region idD #[o1,oD] false) cB)=c) (hLA:∀x∈As,jF P fn.ntmps L x) (hLB:jF P fn.ntmps L acB) (hg1:o1.guard=none) (hgD:oD.guard=none)
  (hoD:oD.op=.defer ⟨.value g,#[],#[]⟩) (hdD:oD.dst=none)
  {EC:List Ent} (hEC:∀x∈EC,gg P x) {LC:List Sub} {n:Func} {C:AC} {idR:Nat} {oR:Oper} {tr:Nat} {crest:Code} (hfC:P.funcs[gid]?=some n)
  (hbC:n.body=some (.seq (.region idR #[oR] false) crest)) (hoR:oR.op=.call ⟨.builtin .recover,#[],#[]⟩) (hgR:oR.guard=none) (hdR:oR.dst=some tr) (Y:n.results=#[]) (hcC:C.code=crest)
  (hLC:jF P n.ntmps LC C) (hEn:l9 P gid)
  {args:List V} {H0:List (Nat×Blk)} {nb0 ro rb:Nat} {K:Bool->V->St->Option α} {z:α} (hn:Nat.ble args.length fn.ntmps=true)
  (h:Rx P E L fn.ntmps As o1 g gid acB EC LC n.ntmps C tr fn.results.toList K ⟨si args 0,H0,nb0,nb0,ro,rb⟩=some z):AV P f args H0 nb0 ro K z:=by
 intro ι0 w J hW hfz hgl hx;have hlen:J.size=args.length:=by simpa using hx.length
 have hn:=aH hn;refine calls_of_wp_defers hf hb ?_;rw[<-hc];have hI:Inv fn.ntmps ι0 ⟨w,[]⟩ ι0 ⟨si args 0,H0,nb0,nb0,ro,rb⟩ { tmps:=J++Array.replicate (fn.ntmps - J.size) undef,defers:=[] } w:=by
  refine⟨by simp;omega,rfl,λt v U=>?_,hW,λ_ _ h=>.inl h,λ_ q h=>.inl ⟨q,h,rfl⟩,Fr.refl _ _,λb r h=>hW.low b r h,hfz,hgl⟩;rw[rz,ae (du _)]at U;simp only[pL]at U;cases hl:args[t]? with
  | none=>simp[hl]at U
  | some u=>
   simp only[hl,fi,ar]at U;subst U;obtain⟨x,o,i⟩:=hx.get hl;have h1':J[t]?=some x:=by simpa using o
   have hlt:t<J.size:=by
    rcases aF t J.size with h' | h'
    ·exact h'
    ·rw[xO h']at h1';cases h1'
   exact⟨x,by rw[RE hlt];exact h1',i⟩
 have Q:∀{D:List Deferred} (s':St) (k:Inj) (F:Act) (w':World),Inv fn.ntmps ι0 ⟨w,D⟩ k s' F w'->finK P fn.results.toList K .ret s'=some z->
   ∃v,(results fn F.tmps).run P w'=.ok v w'/\∃(pan:Bool) (u:V) (s:St) (ι:Inj),K pan u s=some z/\(∀b q,ι0 b=some q->ι b=some q\/s.rb<=b)/\(∀b q,ι b=some (some q)->(∃S,ι0 b=some (some S)/\S.r=q.r)\/w.heap.size<=q.r)/\
   WR ι s.H s.nb w'/\(∀b q,ι b=some (some q)->q.fz=true->b<s.ro)/\Fr (roI ι0 s.ro) w w'/\RetR ι { val:=u,pan:=pan } (.returned v):=by
  intro D s' k F w' i m;simp only[finK]at m;obtain⟨v,x,g1,g2,g3⟩:=zb (fn:=fn) (c:=λv=>K false v s') i m;exact⟨x,g3,false,v,s',k,g1,i.ext,i.new,i.mem,i.fz,i.fr,rfl,g2⟩
 refine LR hE ?_ ?_ As _ ι0 _ w hLA hI h
 ·
  intro s ι a w1 R hk;simp only at hk;refine wp_seq (wp_region_lit (l:=[o1,oD]) ?_);unfold wpList;have hw1:∀y,Region.wanted o1 y=true:=λy=>by simp[Region.wanted,hg1]
  have hwD:∀y,Region.wanted oD y=true:=λy=>by simp[Region.wanted,hgD]
  rw[hw1];simp only[aG];refine .inl (Ak hE R (λb hb=>R.fresh b hb) (aQ _) hk (λN G a2 T p d=>?_) (λv s' k x F w' hk=>by cases hk));split at p
  case h_2=>cases p
  rename_i M cap hgo;split at p
  case h_2=>cases p
  rename_i X;simp only[aC,jn]at X;obtain⟨W,O⟩:=X;subst W;obtain⟨I,hv1,hv2⟩:=QC d.tmps hgo;rw[Fe O]at hv1;unfold wpList;rw[hwD];simp only[aG];refine .inl ?_;unfold Oper.wp;have hrun:(execOp a2.eval oD).run P T=.ok (.defer { target:=.fn (.func M) I,args:=#[] }) T:=by
   simp only[execOp,hoD,resolve,hv1,Deferred.ofValue,aw,aB,ay];simp
  rw[hrun,Oper.upon_defer,hdD];simp only[Act.put];unfold wpList;simp only[Exit.then];have B:Inv fn.ntmps ι0 ⟨w,[{ target:=.fn (.func M) I,args:=#[] }]⟩ G N { a2 with defers:={ target:=.fn (.func M) I,args:=#[] }::a2.defers } T:=
   ⟨d.size,by rw[d.defers],d.tmps,d.mem,d.ext,d.new,d.fr,d.low,d.fz,d.gl⟩
  subst hcB;refine tC ?_ (oI hE acB _ _ z hLB p G ⟨T,[{ target:=.fn (.func M) I,args:=#[] }]⟩ G _ T (B.inner B.defers));rintro e F w' ⟨ex,s',k,o,i,m⟩;split at m
  case h_2=>cases m
  rename_i Z;simp only[aC,jn]at Z;obtain⟨A,hro2⟩:=Z;obtain⟨hext,o1,o2,o3,o4⟩:=B.outer rfl i A hro2;have hI4:Inv fn.ntmps ι0 ⟨w,[{ target:=.fn (.func M) I,args:=#[] }]⟩ k { s' with lo:=N.lo,rb:=N.rb } F w':=
   ⟨i.size,i.defers,i.tmps,i.mem,o1,o2,by show Fr (roI ι0 s'.ro) w w';rw[A];exact o3,d.low,λb q hb hq=>by have:=o4 b q hb hq;simp only;omega,by show GL (roI ι0 s'.ro) w;rw[A];exact B.gl⟩
  have hcv:=VRs.mono hext _ _ hv2;have j:∀(v:V) (x:Value) (u u':FrameMode),VR k v x->u≠.run->(settle u'=.returning)->
    ((u=.returning/\u'=.returning/\x=.nilIface)\/∃y,u=.panicking [{ v:=y,recovered:=false }]/\u'=.panicking [{ v:=y,recovered:=true }]/\x=y)->
    zp P EC LC n.ntmps C tr cap v { s' with lo:=N.lo,rb:=N.rb } (λs=>finK P fn.results.toList K .ret s)=some z->
    Leaves P fn F.tmps (λe w'=>∃(pan:Bool) (u:V) (s:St) (ι:Inj),K pan u s=some z/\(∀b q,ι0 b=some q->ι b=some q\/s.rb<=b)/\(∀b q,ι b=some (some q)->(∃S,ι0 b=some (some S)/\S.r=q.r)\/w.heap.size<=q.r)/\
     WR ι s.H s.nb w'/\(∀b q,ι b=some (some q)->q.fz=true->b<s.ro)/\Fr (roI ι0 s.ro) w w'/\RetR ι { val:=u,pan:=pan } e) F.defers u w':=by
   intro v x u u' hvx hur hset hu ha;rw[i.defers];refine leaves_cons hur (f:=M) (args:=I.toList.toArray) ?_ ?_
   ·have:=hEn I w';simpa[invoke]using this
   ·refine(MX hEC hfC hbC hoR hgR hdR Y hcC hLC ha hI4 hcv hvx hu).mono ?_;rintro e u'' w'' ⟨rfl,y,s3,ι3,rfl,h4,h5,h6⟩;obtain⟨v,g1,g2⟩:=Q s3 ι3 F w'' h5 h4;simp only[hset];exact⟨v,g1,g2⟩
  cases ex with
  | normal=>simp only[ExR]at o;subst o;exact j .ni .nilIface .returning .returning (by simp[VR]) (by simp) rfl (.inl ⟨rfl,rfl,rfl⟩) m
  | ret=>simp only[ExR]at o;subst o;exact j .ni .nilIface .returning .returning (by simp[VR]) (by simp) rfl (.inl ⟨rfl,rfl,rfl⟩) m
  | exit id=>cases m
  | pan v=>
   obtain⟨x,rfl,hx⟩:=o;exact j v x (.panicking [{ v:=x,recovered:=false }]) (.panicking [{ v:=x,recovered:=true }]) hx (by simp) (by simp[settle]) (.inr ⟨x,rfl,rfl,rfl⟩) m
 ·rintro ex s ι e a w1 hne o i m;cases ex with
  | normal=>exact absurd rfl hne
  | exit id=>simp[finK]at m
  | ret=>
   simp only[ExR]at o;subst o;obtain⟨v,g1,g2⟩:=Q s ι a w1 i m;show Leaves P fn a.tmps _ a.defers .returning w1;rw[i.defers];exact⟨v,g1,g2⟩
  | pan v=>
   obtain⟨x,rfl,hx⟩:=o;show Leaves P fn a.tmps _ a.defers (.panicking _) w1;rw[i.defers];exact⟨true,v,s,ι,m,i.ext,i.new,i.mem,i.fz,i.fr,rfl,x,rfl,hx⟩
def pV:Nat->AC->List AC
 | n+1,.seq a b=>a::pV n b
 | _,_=>[]
def ko:Nat->AC->AC
 | n+1,.seq _ b=>ko n b
 | _,c=>c
def uQ:∀(n:Nat) (c:AC),Em (pV n c) (ko n c).code=c.code
 | 0,c=>by simp[pV,ko,Em]
 | n+1,.seq a b=>by simp[pV,ko,Em,uQ n b,AC.code]
 | n+1,.skip | n+1,.ret | n+1,.exit _ | n+1,.cond _ _ _ | n+1,.block _ _ | n+1,.reg _ _ | n+1,.draw _ _ | n+1,.sub _ _ | n+1,.loop _ | n+1,.scope _ | n+1,.label _ | n+1,.bad _=>by
  simp[pV,ko,Em]
def Qr:AC->List Oper
 | .seq (.reg _ l) _=>l
 | _=>[]
def getO(l:List Oper)(i:Nat):Oper:=l.getD i default
def w9{n:Nat}{L:List Sub}:∀(k:Nat) (c:AC),jF P n L c->(∀x∈pV k c,jF P n L x)/\jF P n L (ko k c)
 | 0,c,h=>⟨by simp[pV],by simpa[ko]using h⟩
 | k+1,.seq a b,h=>by
  simp only[jF]at h;have:=w9 k b h.2;exact⟨λx hx=>by
   simp only[pV,de]at hx;rcases hx with rfl | hx
   ·exact h.1
   ·exact this.1 x hx,by simpa[ko]using this.2⟩
 | k+1,.skip,h | k+1,.ret,h | k+1,.exit _,h | k+1,.cond _ _ _,h | k+1,.block _ _,h | k+1,.reg _ _,h | k+1,.draw _ _,h | k+1,.sub _ _,h | k+1,.loop _,h | k+1,.scope _,h | k+1,.label _,h | k+1,.bad _,h=>by
  exact⟨by simp[pV],by simpa[ko]using h⟩
def M3{α:Type}{E:List Ent}(F:∀x∈E,gg P x){L:List Sub}{f:Nat}{fn:Func}{c:Code}{ac:AC}{k:Nat}{o1 oD:Oper}{g:Operand}{gid idD:Nat}{acB:AC}(H:P.funcs[f]?=some fn)
  (D:fn.body=some c) (v:ac.code=c) (d:ko k ac=.seq (.reg idD [o1,oD]) acB) (I:jF P fn.ntmps L ac) (q:o1.guard=none) (n:oD.guard=none)
  (y:oD.op=.defer ⟨.value g,#[],#[]⟩) (t:oD.dst=none)
  {EC:List Ent} (r:∀x∈EC,gg P x) {C:List Sub} {b:Func} {B:Code} {a:AC} {idR:Nat} {oR:Oper} {tr:Nat} (l:P.funcs[gid]?=some b)
  (p:b.body=some B) (w:a.code=B) (i:ko 0 a=.seq (.reg idR [oR]) (ko 1 a)) (s:oR.op=.call ⟨.builtin .recover,#[],#[]⟩) (u:oR.guard=none) (j:oR.dst=some tr) (e:b.results=#[])
  (m:jF P b.ntmps C a) (o:l9 P gid)
  {args:List V} {H0:List (Nat×Blk)} {nb0 ro rb:Nat} {K:Bool->V->St->Option α} {z:α} (G:Nat.ble args.length fn.ntmps=true)
  (h:Rx P E L fn.ntmps (pV k ac) o1 g gid acB EC C b.ntmps (ko 1 a) tr fn.results.toList K ⟨si args 0,H0,nb0,nb0,ro,rb⟩=some z):AV P f args H0 nb0 ro K z:=by
 have hs:=w9 k ac I;have A:jF P fn.ntmps L acB:=by
  have:=hs.2;rw[d]at this;simp only[jF]at this;exact this.2
 refine Oo F H D rfl (As:=pV k ac) (o1:=o1) (oD:=oD) (idD:=idD) (acB:=acB) ?_ hs.1 A q n y t r l (idR:=idR) (oR:=oR) (crest:=(ko 1 a).code) ?_ s u j e rfl (w9 1 a m).2 o G h
 ·rw[<-v,<-uQ k ac,d];rfl
 ·rw[p,<-w,<-uQ 0 a,i];rfl
end Go.Abs
