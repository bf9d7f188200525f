
import Derived.Test.YtibehcmomiplnabGreatDoorAbsP
import Derived.Recover
set_option linter.unusedSimpArgs false
set_option linter.unusedVariables false
set_option linter.defProp false
namespace Go.Abs
variable {P:Program}
def runL{α:Type}(P:Program)(E:List Ent)(L:List Sub)(n:Nat)(k:Ex->St->Option α):List AC->St->Option α
 | [],s=>k .normal s
 | a::l,s=>run P E L n a s λex s=>match ex with
  | .normal=>runL P E L n k l s
  | .exit id=>k (.exit id) s
  | .ret=>k .ret s
  | .pan v=>k (.pan v) s
def BU{α:Type}(P:Program)(E:List Ent)(L:List Sub)(b:Nat)(c:AC)(tr:Nat)(cap:List V)(v:V)(s:St)(k:St->Option α):Option α:=
 match Nat.blt tr b&&(Nat.ble cap.length b&&Nat.ble cap.length tr)with
 | true=>run P E L b c ⟨(tr,some v)::vp cap 0,s.H,s.nb,s.nb,s.ro,s.nb⟩ λex a=>match Nat.beq a.ro s.ro&&Nat.beq a.rb s.nb with
  | true=>match ex with
   | .normal=>k { s with H:=a.H,nb:=a.nb }
   | .ret=>k { s with H:=a.H,nb:=a.nb }
   | .exit _=>none
   | .pan _=>none
  | false=>none
 | false=>none
def Xb{α:Type}(P:Program)(E:List Ent)(L:List Sub)(n:Nat)(As:List AC)(o1:Oper)(g:Operand)(gid:Nat)(acB:AC)(EC:List Ent)(d:List Sub)(c:Nat)(a:AC)(tr:Nat)
  (b:List ResultVar) (K:Bool->V->St->Option α) (s:St):Option α:=
 runL P E L n (λex s=>match ex with
  | .normal=>On P E n s.nb o1 s (λs=>match opd s.T g with
   | some (.fn f cap)=>match Nat.beq f gid&&Nat.blt f 1000000 with
    | true=>run P E L n acB { s with lo:=s.nb,rb:=s.nb } λex s'=>match Nat.beq s'.ro s.ro&&Nat.beq s'.rb s.nb with
     | true=>match ex with
      | .normal=>BU P EC d c a tr cap .ni { s' with lo:=s.lo,rb:=s.rb } λs=>finK P b K .ret s
      | .ret=>BU P EC d c a tr cap .ni { s' with lo:=s.lo,rb:=s.rb } λs=>finK P b K .ret s
      | .pan v=>BU P EC d c a tr cap v { s' with lo:=s.lo,rb:=s.rb } λs=>finK P b K .ret s
      | .exit _=>none
     | false=>none
    | false=>none
   | _=>none) (λ_ _=>none)
  | .exit id=>finK P b K (.exit id) s
  | .ret=>finK P b K .ret s
  | .pan v=>finK P b K (.pan v) s) As s
def Jn:List AC->Code->Code
 | [],c=>c
 | a::l,c=>.seq a.code (Jn l c)
def Qq {α:Type} {E:List Ent} (p:∀x∈E,gV P x) {L:List Sub} {n:Nat} {k:Ex->St->Option α} {z:α} {c:Code} {ι0:Inj} {w0:Base} {Q:Exit->Act->World->Prop}
  (o:∀s ι a w,Inv n ι0 w0 ι s a w->k .normal s=some z->c.wp P Q a w)
  (i:∀ex s ι e a w,ex≠.normal->ExR ι ex e->Inv n ι0 w0 ι s a w->k ex s=some z->Q e a w):∀(As:List AC) (s:St) (ι:Inj) (a:Act) (w:World),(∀x∈As,ln P n L x)->
   Inv n ι0 w0 ι s a w->runL P E L n k As s=some z->(Jn As c).wp P Q a w
 | [],s,ι,a,w,_,m,h=>o s ι a w m h
 | x::l,s,ι,a,w,hs,m,h=>by
  simp only [runL] at h;refine wp_seq (wp_mono (rF p x s _ z (hs x (by simp)) h ι0 w0 ι a w m) ?_);rintro e f w' ⟨ex,s',b,d,j,g⟩;cases ex with
  | normal=>simp only [ExR] at d;subst d;exact Qq p o i l s' b f w' (λy hy=>hs y (fV _ hy)) j g
  | exit id=>simp only [ExR] at d;subst d;exact i (.exit id) s' b _ f w' (by simp) rfl j g
  | ret=>simp only [ExR] at d;subst d;exact i .ret s' b _ f w' (by simp) rfl j g
  | pan v=>obtain ⟨y,rfl,hx⟩:=d;exact i (.pan v) s' b _ f w' (by simp) ⟨y,rfl,hx⟩ j g
def Inv.inner{n:Nat}{ι0 ι:Inj}{w0:Base}{s:St}{a:Act}{w:World}{D:List Deferred}(C:Inv n ι0 w0 ι s a w)(F:a.defers=D):Inv n ι ⟨w,D⟩ ι { s with lo:=s.nb,rb:=s.nb } a w:=
 ⟨C.size,F,C.tmps,C.mem,λ_ _ h=>.inl h,λ_ q h=>.inl ⟨q,h,rfl⟩,Fr.refl _ _,λb r h=>C.mem.low b r h,C.fz,C.glHere λ_ _ E=>⟨sG E,OA E⟩⟩
def Inv.outer {n n':Nat} {ι0 ι E:Inj} {w0 w1:Base} {s s':St} {a a':Act} {w w':World} (O:Inv n ι0 w0 ι s a w) (hw:w1.w=w) (F:Inv n' ι w1 E s' a' w') (U:s'.ro=s.ro) (hrb:s'.rb=s.nb):
  (∀b q,ι b=some q->E b=some q)/\(∀b q,ι0 b=some q->E b=some q\/s.rb<=b)/\(∀b q,E b=some (some q)->(∃Q,ι0 b=some (some Q)/\Q.r=q.r)\/w0.w.heap.size<=q.r)/\Fr (roI ι0 s.ro) w0.w w'/\
   (∀b q,E b=some (some q)->q.fz=true->b<s.ro):=by
 subst hw;have G:∀b q,ι b=some q->E b=some q:=by
  intro b q C;rcases F.ext b q C with h | h
  ·exact h
  ·have:=O.mem.low b q C;omega
 refine ⟨G,λb q C=>(O.ext b q C).imp (G b q) id,λb q C=>?_,O.fr.trans (λb q C=>?_) F.fr,λb q C hq=>by have:=F.fz b q C hq;omega⟩
 ·rcases F.new b q C with ⟨Q,Z,X⟩ | h
  ·rw [<-X];exact O.new b Q Z
  ·exact .inr (tY O.fr.size h)
 ·have Y:=sG C;have W:s.ro<=b:=by
   rw [U] at C;unfold roI at C;cases J:Nat.blt b s.ro with
   | true=>simp [J] at C
   | false=>
    rcases aN b s.ro with h | h
    ·rw [show Nat.blt b s.ro=true from dc h] at J;cases J
    ·exact h
  exact (O.new b q Y).imp (λ⟨Q,h,X⟩=>⟨Q,HI h W,X⟩) id
def N6{α:Type}{E:List Ent}(hE:∀x∈E,gV P x){L:List Sub}{g:Nat}{fn:Func}{l:AC}{idR:Nat}{oR:Oper}{tr:Nat}{crest:Code}(hf:P.funcs[g]?=some fn)
  (hb:fn.body=some (.seq (.region idR #[oR] false) crest)) (hoR:oR.op=.call ⟨.builtin .recover,#[],#[]⟩) (hgR:oR.guard=none) (hdR:oR.dst=some tr) (X:fn.results=#[]) (hc:l.code=crest)
  (hL:ln P fn.ntmps L l) {cap:List V} {v:V} {s:St} {k:St->Option α} {z:α} (h:BU P E L fn.ntmps l tr cap v s k=some z)
  {n:Nat} {ι0 ι:Inj} {w0:Base} {a:Act} {w:World} (j:Inv n ι0 w0 ι s a w) {i:List Value} (A:VRs ι cap i) {x:Value} (hx:VR ι v x) {u B:FrameMode}
  (hu:(u=.returning/\B=.returning/\x=.nilIface)\/∃y,u=.panicking [{ v:=y,recovered:=false }]/\B=.panicking [{ v:=y,recovered:=true }]/\x=y):
  CallsD P g i.toArray u w λe F w'=>F=B/\∃(y:Value) (s':St) (J:Inj),e=.returned y/\k s'=some z/\Inv n ι0 w0 J s' a w'/\s'.T=s.T:=by
 unfold BU at h;split at h
 case h_2=>cases h
 rename_i f;simp only[aD]at f;have htr:tr<fn.ntmps:=aR f.1;have hcl:cap.length<=fn.ntmps:=aR f.2.1;have hct:cap.length<=tr:=aR f.2.2;have hlen:i.length=cap.length:=A.length;refine callsD_of_wpS hf hb λd U K=>?_;have W:∀a:Act,(execOp a.eval oR).run P w=.ok .recover w:=by
  intro a;simp[execOp,hoR,resolve,invoke,builtin]
 have o:∀D:List Frame,D={ d with mode:=B }::U->
   crest.wpS P (bodyPostS P fn d U λe F w'=>F=B/\∃(y:Value) (s':St) (J:Inj),e=.returned y/\k s'=some z/\Inv n ι0 w0 J s' a w'/\s'.T=s.T)
    (({ tmps:=i.toArray++Array.replicate (fn.ntmps - i.toArray.size) undef,defers:=[] }:Act).put oR.dst x) D w:=by
  intro D hfs;have hI2:Inv fn.ntmps ι ⟨w,[]⟩ ι ⟨(tr,some v)::vp cap 0,s.H,s.nb,s.nb,s.ro,s.nb⟩ (({ tmps:=i.toArray++Array.replicate (fn.ntmps - i.toArray.size) undef,defers:=[] }:Act).put oR.dst x) w:=by
   refine⟨by rw[o9];simp;omega,by rw[kJ],?_,j.mem,λ_ _ h=>.inl h,λ_ q h=>.inl ⟨q,h,rfl⟩,Fr.refl _ _,λb r h=>j.mem.low b r h,j.fz,j.glHere λ_ _ hb=>⟨sG hb,OA hb⟩⟩;rw[hdR];refine TR.put (λt u S=>?_) (by simp;omega) (λu hu=>by cases hu;exact hx);rw[uT,ae (lc _)]at S;simp only[uo]at S;cases hl:cap[t]? with
   | none=>simp[hl]at S
   | some u=>
    simp only[hl,fQ,aw]at S;subst S;obtain⟨x,O,N⟩:=A.get hl;have h1':i.toArray[t]?=some x:=by simpa using O
    have hlt:t<i.toArray.size:=by
     rcases aN t i.toArray.size with h' | h'
     ·exact h'
     ·rw[ym h']at h1';cases h1'
    exact⟨x,by rw[Yg hlt];exact h1',N⟩
  subst hc hfs;refine wpS_of_wp (wh ?_ (rF hE l _ _ z hL h ι ⟨w,[]⟩ ι _ w hI2));rintro e a' w' ⟨ex,s2,C,O,N,M⟩;split at M
  case h_2=>cases M
  rename_i R;simp only[aD,kx]at R;obtain⟨Y,Z⟩:=R;obtain⟨Q,o1,o2,o3,o4⟩:=j.outer rfl N Y Z;have p:Inv n ι0 w0 C { s with H:=s2.H,nb:=s2.nb } a w':=⟨j.size,j.defers,j.tmps.mono Q,N.mem,o1,o2,o3,j.low,o4,j.gl⟩;have c:(results fn a'.tmps).run P w'=.ok (.tuple #[]) w':=by
   rw[Df,X];simp[aH]
  cases ex with
  | normal=>simp only[ExR]at O;subst O;exact⟨N.defers,B,rfl,_,c,rfl,_,_,C,rfl,M,p,rfl⟩
  | ret=>simp only[ExR]at O;subst O;exact⟨N.defers,B,rfl,_,c,rfl,_,_,C,rfl,M,p,rfl⟩
  | exit id=>cases M
  | pan v=>cases M
 refine wpS_seq (wpS_region ?_);show wpOpsS P #[oR] _ [0] _ _ w;simp only[wpOpsS];have h0:(#[oR]:Array Oper)[0]?=some oR:=rfl;rw[h0];simp only;have hw:∀y,Region.wanted oR y=true:=λy=>by simp[Region.wanted,hgR]
 rw[hw];simp only[aS,W];rcases hu with⟨m,I,G⟩ | ⟨y,m,I,G⟩
 ·subst G;have:recoverD (d::U)=none:=by simp[recoverD,K,m]
  rw[this];exact o _ (by rw[I,<-m,<-K])
 ·subst G;have:recoverD (d::U)=some (x,{ d with mode:=B }::U):=by simp[recoverD,K,m,I]
  rw[this];exact o _ rfl
def TP{α:Type}{E:List Ent}(hE:∀x∈E,gV P x){L:List Sub}{f:Nat}{fn:Func}{c:Code}{As:List AC}{o1 oD:Oper}{g:Operand}{gid idD:Nat}{acB:AC}{cB:Code}(hf:P.funcs[f]?=some fn)
  (hb:fn.body=some c) (hcB:acB.code=cB) (hc:Jn As (.seq (.region idD #[o1,oD] false) cB)=c) (hLA:∀x∈As,ln P fn.ntmps L x) (hLB:ln P fn.ntmps L acB) (hg1:o1.guard=none) (hgD:oD.guard=none)
  (hoD:oD.op=.defer ⟨.value g,#[],#[]⟩) (hdD:oD.dst=none)
  {EC:List Ent} (hEC:∀x∈EC,gV P x) {LC:List Sub} {n:Func} {C:AC} {idR:Nat} {oR:Oper} {tr:Nat} {crest:Code} (hfC:P.funcs[gid]?=some n)
  (hbC:n.body=some (.seq (.region idR #[oR] false) crest)) (hoR:oR.op=.call ⟨.builtin .recover,#[],#[]⟩) (hgR:oR.guard=none) (hdR:oR.dst=some tr) (hres:n.results=#[]) (hcC:C.code=crest)
  (hLC:ln P n.ntmps LC C) (hEn:mA P gid)
  {args:List V} {H0:List (Nat×Blk)} {nb0 ro rb:Nat} {K:Bool->V->St->Option α} {z:α} (hn:Nat.ble args.length fn.ntmps=true)
  (h:Xb P E L fn.ntmps As o1 g gid acB EC LC n.ntmps C tr fn.results.toList K ⟨vp args 0,H0,nb0,nb0,ro,rb⟩=some z):D2 P f args H0 nb0 ro K z:=by
 intro ι0 w J hW hfz hgl hx;have hlen:J.size=args.length:=by simpa using hx.length
 have hn:=aR hn;refine calls_of_wp_defers hf hb ?_;rw[<-hc];have hI:Inv fn.ntmps ι0 ⟨w,[]⟩ ι0 ⟨vp args 0,H0,nb0,nb0,ro,rb⟩ { tmps:=J++Array.replicate (fn.ntmps - J.size) undef,defers:=[] } w:=by
  refine⟨by simp;omega,rfl,λt v T=>?_,hW,λ_ _ h=>.inl h,λ_ q h=>.inl ⟨q,h,rfl⟩,Fr.refl _ _,λb r h=>hW.low b r h,hfz,hgl⟩;rw[uT,ae (lc _)]at T;simp only[uo]at T;cases hl:args[t]? with
  | none=>simp[hl]at T
  | some u=>
   simp only[hl,fQ,aw]at T;subst T;obtain⟨x,A,i⟩:=hx.get hl;have h1':J[t]?=some x:=by simpa using A
   have hlt:t<J.size:=by
    rcases aN t J.size with h' | h'
    ·exact h'
    ·rw[ym h']at h1';cases h1'
   exact⟨x,by rw[Yg hlt];exact h1',i⟩
 have fin:∀{D:List Deferred} (s':St) (k:Inj) (F:Act) (w':World),Inv fn.ntmps ι0 ⟨w,D⟩ k s' F w'->finK P fn.results.toList K .ret s'=some z->
   ∃v,(results fn F.tmps).run P w'=.ok v w'/\∃(pan:Bool) (u:V) (s:St) (ι:Inj),K pan u s=some z/\(∀b q,ι0 b=some q->ι b=some q\/s.rb<=b)/\(∀b q,ι b=some (some q)->(∃q',ι0 b=some (some q')/\q'.r=q.r)\/w.heap.size<=q.r)/\
   WR ι s.H s.nb w'/\(∀b q,ι b=some (some q)->q.fz=true->b<s.ro)/\Fr (roI ι0 s.ro) w w'/\RetR ι { val:=u,pan:=pan } (.returned v):=by
  intro D s' k F w' i m;simp only[finK]at m;obtain⟨v,x,O,g2,g3⟩:=Cf (fn:=fn) (c:=λv=>K false v s') i m;exact⟨x,g3,false,v,s',k,O,i.ext,i.new,i.mem,i.fz,i.fr,rfl,g2⟩
 refine Qq hE ?_ ?_ As _ ι0 _ w hLA hI h
 ·
  intro s ι a w1 W hk;simp only at hk;refine wp_seq (wp_region_lit (l:=[o1,oD]) ?_);unfold wpList;have hw1:∀y,Region.wanted o1 y=true:=λy=>by simp[Region.wanted,hg1]
  have hwD:∀y,Region.wanted oD y=true:=λy=>by simp[Region.wanted,hgD]
  rw[hw1];simp only[aS];refine .inl (Eo hE W (λb hb=>W.fresh b hb) (bi _) hk (λR G a2 X p d=>?_) (λv s' k x F w' hk=>by cases hk));split at p
  case h_2=>cases p
  rename_i M cap hgo;split at p
  case h_2=>cases p
  rename_i U;simp only[aD,kx]at U;obtain⟨hff1,Y⟩:=U;subst hff1;obtain⟨I,hv1,hv2⟩:=Vb d.tmps hgo;rw[IG Y]at hv1;unfold wpList;rw[hwD];simp only[aS];refine .inl ?_;unfold Oper.wp;have Q:(execOp a2.eval oD).run P X=.ok (.defer { target:=.fn (.func M) I,args:=#[] }) X:=by
   simp only[execOp,hoD,resolve,hv1,Deferred.ofValue,ay,aH,aE];simp
  rw[Q,Oper.upon_defer,hdD];simp only[Act.put];unfold wpList;simp only[Exit.then];have B:Inv fn.ntmps ι0 ⟨w,[{ target:=.fn (.func M) I,args:=#[] }]⟩ G R { a2 with defers:={ target:=.fn (.func M) I,args:=#[] }::a2.defers } X:=
   ⟨d.size,by rw[d.defers],d.tmps,d.mem,d.ext,d.new,d.fr,d.low,d.fz,d.gl⟩
  subst hcB;refine wh ?_ (rF hE acB _ _ z hLB p G ⟨X,[{ target:=.fn (.func M) I,args:=#[] }]⟩ G _ X (B.inner B.defers));rintro e F w' ⟨ex,s',k,A,i,m⟩;split at m
  case h_2=>cases m
  rename_i Z;simp only[aD,kx]at Z;obtain⟨o,hro2⟩:=Z;obtain⟨N,o1,o2,o3,o4⟩:=B.outer rfl i o hro2;have hI4:Inv fn.ntmps ι0 ⟨w,[{ target:=.fn (.func M) I,args:=#[] }]⟩ k { s' with lo:=R.lo,rb:=R.rb } F w':=
   ⟨i.size,i.defers,i.tmps,i.mem,o1,o2,by show Fr (roI ι0 s'.ro) w w';rw[o];exact o3,d.low,λb q hb hq=>by have:=o4 b q hb hq;simp only;omega,by show GL (roI ι0 s'.ro) w;rw[o];exact B.gl⟩
  have hcv:=VRs.mono N _ _ hv2;have j:∀(v:V) (x:Value) (u u':FrameMode),VR k v x->u≠.run->(settle u'=.returning)->
    ((u=.returning/\u'=.returning/\x=.nilIface)\/∃y,u=.panicking [{ v:=y,recovered:=false }]/\u'=.panicking [{ v:=y,recovered:=true }]/\x=y)->
    BU P EC LC n.ntmps C tr cap v { s' with lo:=R.lo,rb:=R.rb } (λs=>finK P fn.results.toList K .ret s)=some z->
    Leaves P fn F.tmps (λe w'=>∃(pan:Bool) (u:V) (s:St) (ι:Inj),K pan u s=some z/\(∀b q,ι0 b=some q->ι b=some q\/s.rb<=b)/\(∀b q,ι b=some (some q)->(∃q',ι0 b=some (some q')/\q'.r=q.r)\/w.heap.size<=q.r)/\
     WR ι s.H s.nb w'/\(∀b q,ι b=some (some q)->q.fz=true->b<s.ro)/\Fr (roI ι0 s.ro) w w'/\RetR ι { val:=u,pan:=pan } e) F.defers u w':=by
   intro v x u u' hvx hur S hu ha;rw[i.defers];refine leaves_cons hur (f:=M) (args:=I.toList.toArray) ?_ ?_
   ·have:=hEn I w';simpa[invoke]using this
   ·refine(N6 hEC hfC hbC hoR hgR hdR hres hcC hLC ha hI4 hcv hvx hu).mono ?_;rintro e u'' w'' ⟨rfl,y,s3,ι3,rfl,h4,h5,h6⟩;obtain⟨v,O,g2⟩:=fin s3 ι3 F w'' h5 h4;simp only[S];exact⟨v,O,g2⟩
  cases ex with
  | normal=>simp only[ExR]at A;subst A;exact j .ni .nilIface .returning .returning (by simp[VR]) (by simp) rfl (.inl ⟨rfl,rfl,rfl⟩) m
  | ret=>simp only[ExR]at A;subst A;exact j .ni .nilIface .returning .returning (by simp[VR]) (by simp) rfl (.inl ⟨rfl,rfl,rfl⟩) m
  | exit id=>cases m
  | pan v=>
   obtain⟨x,rfl,hx⟩:=A;exact j v x (.panicking [{ v:=x,recovered:=false }]) (.panicking [{ v:=x,recovered:=true }]) hx (by simp) (by simp[settle]) (.inr ⟨x,rfl,rfl,rfl⟩) m
 ·rintro ex s ι e a w1 hne A i m;cases ex with
  | normal=>exact absurd rfl hne
  | exit id=>simp[finK]at m
  | ret=>
   simp only[ExR]at A;subst A;obtain⟨v,O,g2⟩:=fin s ι a w1 i m;show Leaves P fn a.tmps _ a.defers .returning w1;rw[i.defers];exact⟨v,O,g2⟩
  | pan v=>
   obtain⟨x,rfl,hx⟩:=A;show Leaves P fn a.tmps _ a.defers (.panicking _) w1;rw[i.defers];exact⟨true,v,s,ι,m,i.ext,i.new,i.mem,i.fz,i.fr,rfl,x,rfl,hx⟩
def sY:Nat->AC->List AC
 | n+1,.seq a b=>a::sY n b
 | _,_=>[]
def l8:Nat->AC->AC
 | n+1,.seq _ b=>l8 n b
 | _,c=>c
def xp:∀(n:Nat) (c:AC),Jn (sY n c) (l8 n c).code=c.code
 | 0,c=>by simp[sY,l8,Jn]
 | n+1,.seq a b=>by simp[sY,l8,Jn,xp n b,AC.code]
 | n+1,.skip | n+1,.ret | n+1,.exit _ | n+1,.cond _ _ _ | n+1,.block _ _ | n+1,.reg _ _ | n+1,.draw _ _ | n+1,.sub _ _ | n+1,.loop _ | n+1,.scope _ | n+1,.label _ | n+1,.bad _=>by
  simp[sY,l8,Jn]
def Vp:AC->List Oper
 | .seq (.reg _ l) _=>l
 | _=>[]
def getO(l:List Oper)(i:Nat):Oper:=l.getD i default
def AY{n:Nat}{L:List Sub}:∀(k:Nat) (c:AC),ln P n L c->(∀x∈sY k c,ln P n L x)/\ln P n L (l8 k c)
 | 0,c,h=>⟨by simp[sY],by simpa[l8]using h⟩
 | k+1,.seq a b,h=>by
  simp only[ln]at h;have:=AY k b h.2;exact⟨λx hx=>by
   simp only[sY,ck]at hx;rcases hx with rfl | hx
   ·exact h.1
   ·exact this.1 x hx,by simpa[l8]using this.2⟩
 | k+1,.skip,h | k+1,.ret,h | k+1,.exit _,h | k+1,.cond _ _ _,h | k+1,.block _ _,h | k+1,.reg _ _,h | k+1,.draw _ _,h | k+1,.sub _ _,h | k+1,.loop _,h | k+1,.scope _,h | k+1,.label _,h | k+1,.bad _,h=>by
  exact⟨by simp[sY],by simpa[l8]using h⟩
def RF{α:Type}{E:List Ent}(H:∀x∈E,gV P x){L:List Sub}{f:Nat}{fn:Func}{c:Code}{ac:AC}{k:Nat}{o1 oD:Oper}{g:Operand}{gid idD:Nat}{acB:AC}(D:P.funcs[f]?=some fn)
  (F:fn.body=some c) (q:ac.code=c) (i:l8 k ac=.seq (.reg idD [o1,oD]) acB) (I:ln P fn.ntmps L ac) (A:o1.guard=none) (s:oD.guard=none)
  (t:oD.op=.defer ⟨.value g,#[],#[]⟩) (w:oD.dst=none)
  {EC:List Ent} (j:∀x∈EC,gV P x) {B:List Sub} {b:Func} {C:Code} {a:AC} {idR:Nat} {oR:Oper} {tr:Nat} (r:P.funcs[gid]?=some b)
  (l:b.body=some C) (y:a.code=C) (d:l8 0 a=.seq (.reg idR [oR]) (l8 1 a)) (n:oR.op=.call ⟨.builtin .recover,#[],#[]⟩) (u:oR.guard=none) (p:oR.dst=some tr) (e:b.results=#[])
  (o:ln P b.ntmps B a) (m:mA P gid)
  {args:List V} {H0:List (Nat×Blk)} {nb0 ro rb:Nat} {K:Bool->V->St->Option α} {z:α} (G:Nat.ble args.length fn.ntmps=true)
  (h:Xb P E L fn.ntmps (sY k ac) o1 g gid acB EC B b.ntmps (l8 1 a) tr fn.results.toList K ⟨vp args 0,H0,nb0,nb0,ro,rb⟩=some z):D2 P f args H0 nb0 ro K z:=by
 have hs:=AY k ac I;have v:ln P fn.ntmps L acB:=by
  have:=hs.2;rw[i]at this;simp only[ln]at this;exact this.2
 refine TP H D F rfl (As:=sY k ac) (o1:=o1) (oD:=oD) (idD:=idD) (acB:=acB) ?_ hs.1 v A s t w j r (idR:=idR) (oR:=oR) (crest:=(l8 1 a).code) ?_ n u p e rfl (AY 1 a o).2 m G h
 ·rw[<-q,<-xp k ac,i];rfl
 ·rw[l,<-y,<-xp 0 a,d];rfl
end Go.Abs
