
/- Functions that defer a closure: what they come to.
   Conditions: none; generic over the program. -/
import Derived.Test.YtaogbalpingjhaaGreatDoorAbsP
import Derived.Recover
set_option linter.unusedSimpArgs false
set_option linter.unusedVariables false
namespace Go.Abs
variable {P:Program}
def runL {α:Type} (P:Program) (E:List Ent) (L:List Sub) (n:Nat) (k:Ex->St->Option α):List AC->St->Option α
 | [],s=>k .normal s
 | a::l,s=>run P E L n a s λex s=>match ex with
  | .normal=>runL P E L n k l s
  | .exit id=>k (.exit id) s
  | .ret=>k .ret s
  | .pan v=>k (.pan v) s
def we {α:Type} (P:Program) (E:List Ent) (L:List Sub) (b:Nat) (c:AC) (tr:Nat) (cap:List V) (v:V) (s:St) (k:St->Option α):Option α:=
 match Nat.blt tr b&&(Nat.ble cap.length b&&Nat.ble cap.length tr) with
 | true=>run P E L b c ⟨(tr,some v)::qg cap 0,s.H,s.nb,s.nb,s.ro,s.nb⟩ λex a=>match Nat.beq a.ro s.ro&&Nat.beq a.rb s.nb with
  | true=>match ex with
   | .normal=>k { s with H:=a.H,nb:=a.nb }
   | .ret=>k { s with H:=a.H,nb:=a.nb }
   | .exit _=>none
   | .pan _=>none
  | false=>none
 | false=>none
def OT {α:Type} (P:Program) (E:List Ent) (L:List Sub) (n:Nat) (As:List AC) (o1:Oper) (g:Operand) (gid:Nat) (acB:AC) (EC:List Ent) (d:List Sub) (c:Nat) (a:AC) (tr:Nat)
  (b:List ResultVar) (K:Bool->V->St->Option α) (s:St):Option α:=
 runL P E L n (λex s=>match ex with
  | .normal=>IR P E n s.nb o1 s (λs=>match opd s.T g with
   | some (.fn f cap)=>match Nat.beq f gid&&Nat.blt f 1000000 with
    | true=>run P E L n acB { s with lo:=s.nb,rb:=s.nb } λex s'=>match Nat.beq s'.ro s.ro&&Nat.beq s'.rb s.nb with
     | true=>match ex with
      | .normal=>we P EC d c a tr cap .ni { s' with lo:=s.lo,rb:=s.rb } λs=>finK P b K .ret s
      | .ret=>we P EC d c a tr cap .ni { s' with lo:=s.lo,rb:=s.rb } λs=>finK P b K .ret s
      | .pan v=>we P EC d c a tr cap v { s' with lo:=s.lo,rb:=s.rb } λs=>finK P b K .ret s
      | .exit _=>none
     | false=>none
    | false=>none
   | _=>none) (λ_ _=>none)
  | .exit id=>finK P b K (.exit id) s
  | .ret=>finK P b K .ret s
  | .pan v=>finK P b K (.pan v) s) As s
def CN:List AC->Code->Code
 | [],c=>c
 | a::l,c=>.seq a.code (CN l c)
theorem Iq {α:Type} {E:List Ent} (p:∀x∈E,dT P x) {L:List Sub} {n:Nat} {k:Ex->St->Option α} {z:α} {c:Code} {ι0:Inj} {w0:Base} {Q:Exit->Act->World->Prop}
  (o:∀s ι a w,Inv n ι0 w0 ι s a w->k .normal s=some z->c.wp P Q a w)
  (g:∀ex s ι e a w,ex≠.normal->ExR ι ex e->Inv n ι0 w0 ι s a w->k ex s=some z->Q e a w):∀(As:List AC) (s:St) (ι:Inj) (a:Act) (w:World),(∀x∈As,iu P n L x)->
   Inv n ι0 w0 ι s a w->runL P E L n k As s=some z->(CN As c).wp P Q a w
 | [],s,ι,a,w,_,m,h=>o s ι a w m h
 | x::l,s,ι,a,w,hs,m,h=>by
  simp only [runL] at h;refine wp_seq (wp_mono (mr p x s _ z (hs x (by simp)) h ι0 w0 ι a w m) ?_);rintro e f w' ⟨ex,s',b,d,j,i⟩;cases ex with
  | normal=>simp only [ExR] at d;subst d;exact Iq p o g l s' b f w' (λy hy=>hs y (eC _ hy)) j i
  | exit id=>simp only [ExR] at d;subst d;exact g (.exit id) s' b _ f w' (by simp) rfl j i
  | ret=>simp only [ExR] at d;subst d;exact g .ret s' b _ f w' (by simp) rfl j i
  | pan v=>obtain ⟨y,rfl,hx⟩:=d;exact g (.pan v) s' b _ f w' (by simp) ⟨y,rfl,hx⟩ j i
theorem Inv.inner {n:Nat} {ι0 ι:Inj} {w0:Base} {s:St} {a:Act} {w:World} {D:List Deferred} (C:Inv n ι0 w0 ι s a w) (F:a.defers=D):Inv n ι ⟨w,D⟩ ι { s with lo:=s.nb,rb:=s.nb } a w:=
 ⟨C.size,F,C.tmps,C.mem,λ_ _ h=>.inl h,λ_ q h=>.inl ⟨q,h,rfl⟩,Fr.refl _ _,λb r h=>C.mem.low b r h,C.fz,C.glHere λ_ _ E=>⟨nE E,JB E⟩⟩
theorem Inv.outer {n n':Nat} {ι0 ι E:Inj} {w0 w1:Base} {s s':St} {a a':Act} {w w':World} (Q:Inv n ι0 w0 ι s a w) (hw:w1.w=w) (F:Inv n' ι w1 E s' a' w') (X:s'.ro=s.ro) (hrb:s'.rb=s.nb):
  (∀b q,ι b=some q->E b=some q)/\(∀b q,ι0 b=some q->E b=some q\/s.rb<=b)/\(∀b q,E b=some (some q)->(∃O,ι0 b=some (some O)/\O.r=q.r)\/w0.w.heap.size<=q.r)/\Fr (roI ι0 s.ro) w0.w w'/\
   (∀b q,E b=some (some q)->q.fz=true->b<s.ro):=by
 subst hw;have G:∀b q,ι b=some q->E b=some q:=by
  intro b q C;rcases F.ext b q C with h | h
  ·exact h
  ·have:=Q.mem.low b q C;omega
 refine ⟨G,λb q C=>(Q.ext b q C).imp (G b q) id,λb q C=>?_,Q.fr.trans (λb q C=>?_) F.fr,λb q C hq=>by have:=F.fz b q C hq;omega⟩
 ·rcases F.new b q C with ⟨O,W,Y⟩ | h
  ·rw [<-Y];exact Q.new b O W
  ·exact .inr (pX Q.fr.size h)
 ·have U:=nE C;have Z:s.ro<=b:=by
   rw [X] at C;unfold roI at C;cases J:Nat.blt b s.ro with
   | true=>simp [J] at C
   | false=>
    rcases aE b s.ro with h | h
    ·rw [show Nat.blt b s.ro=true from co h] at J;cases J
    ·exact h
  exact (Q.new b q U).imp (λ⟨O,h,Y⟩=>⟨O,zE h Z,Y⟩) id
theorem G1 {α:Type} {E:List Ent} (hE:∀x∈E,dT P x) {L:List Sub} {g:Nat} {fn:Func} {l:AC} {idR:Nat} {oR:Oper} {tr:Nat} {crest:Code} (hf:P.funcs[g]?=some fn)
  (hb:fn.body=some (.seq (.region idR #[oR] false) crest)) (hoR:oR.op=.call ⟨.builtin .recover,#[],#[]⟩) (hgR:oR.guard=none) (hdR:oR.dst=some tr) (R:fn.results=#[]) (hc:l.code=crest)
  (hL:iu P fn.ntmps L l) {cap:List V} {v:V} {s:St} {k:St->Option α} {z:α} (h:we P E L fn.ntmps l tr cap v s k=some z)
  {n:Nat} {ι0 ι:Inj} {w0:Base} {a:Act} {w:World} (i:Inv n ι0 w0 ι s a w) {j:List Value} (B:VRs ι cap j) {x:Value} (hx:VR ι v x) {u p:FrameMode}
  (hu:(u=.returning/\p=.returning/\x=.nilIface)\/∃y,u=.panicking [{ v:=y,recovered:=false }]/\p=.panicking [{ v:=y,recovered:=true }]/\x=y):
  CallsD P g j.toArray u w λe F w'=>F=p/\∃(y:Value) (s':St) (C:Inj),e=.returned y/\k s'=some z/\Inv n ι0 w0 C s' a w'/\s'.T=s.T:=by
 unfold we at h;split at h
 case h_2=>cases h
 rename_i f;simp only [az] at f;have htr:tr<fn.ntmps:=aD f.1;have hcl:cap.length<=fn.ntmps:=aD f.2.1;have hct:cap.length<=tr:=aD f.2.2;have hlen:j.length=cap.length:=B.length;refine callsD_of_wpS hf hb λd Q G=>?_;have X:∀a:Act,(execOp a.eval oR).run P w=.ok .recover w:=by
  intro a;simp [execOp,hoR,resolve,invoke,builtin]
 have A:∀J:List Frame,J={ d with mode:=p }::Q->
   crest.wpS P (bodyPostS P fn d Q λe F w'=>F=p/\∃(y:Value) (s':St) (C:Inj),e=.returned y/\k s'=some z/\Inv n ι0 w0 C s' a w'/\s'.T=s.T)
    (({ tmps:=j.toArray++Array.replicate (fn.ntmps - j.toArray.size) undef,defers:=[] }:Act).put oR.dst x) J w:=by
  intro J hfs;have hI2:Inv fn.ntmps ι ⟨w,[]⟩ ι ⟨(tr,some v)::qg cap 0,s.H,s.nb,s.nb,s.ro,s.nb⟩ (({ tmps:=j.toArray++Array.replicate (fn.ntmps - j.toArray.size) undef,defers:=[] }:Act).put oR.dst x) w:=by
   refine ⟨by rw [k7];simp;omega,by rw [hZ],?_,i.mem,λ_ _ h=>.inl h,λ_ q h=>.inl ⟨q,h,rfl⟩,Fr.refl _ _,λb r h=>i.mem.low b r h,i.fz,i.glHere λ_ _ hb=>⟨nE hb,JB hb⟩⟩;rw [hdR];refine TR.put (λt u S=>?_) (by simp;omega) (λu hu=>by cases hu;exact hx);rw [o6,ae (gf _)] at S;simp only [pP] at S;cases hl:cap[t]? with
   | none=>simp [hl] at S
   | some u=>
    simp only [hl,dC,ah] at S;subst S;obtain ⟨x,M,O⟩:=B.get hl;have h1':j.toArray[t]?=some x:=by simpa using M
    have hlt:t<j.toArray.size:=by
     rcases aE t j.toArray.size with h' | h'
     ·exact h'
     ·rw [tZ h'] at h1';cases h1'
    exact ⟨x,by rw [Oc hlt];exact h1',O⟩
  subst hc hfs;refine wpS_of_wp (qL ?_ (mr hE l _ _ z hL h ι ⟨w,[]⟩ ι _ w hI2));rintro e a' w' ⟨ex,s2,K,M,O,N⟩;split at N
  case h_2=>cases N
  rename_i U;simp only [az,gP] at U;obtain ⟨Y,Z⟩:=U;obtain ⟨W,o1,o2,o3,o4⟩:=i.outer rfl O Y Z;have o:Inv n ι0 w0 K { s with H:=s2.H,nb:=s2.nb } a w':=⟨i.size,i.defers,i.tmps.mono W,O.mem,o1,o2,o3,i.low,o4,i.gl⟩;have c:(results fn a'.tmps).run P w'=.ok (.tuple #[]) w':=by
   rw [wC,R];simp [aB]
  cases ex with
  | normal=>simp only [ExR] at M;subst M;exact ⟨O.defers,p,rfl,_,c,rfl,_,_,K,rfl,N,o,rfl⟩
  | ret=>simp only [ExR] at M;subst M;exact ⟨O.defers,p,rfl,_,c,rfl,_,_,K,rfl,N,o,rfl⟩
  | exit id=>cases N
  | pan v=>cases N
 refine wpS_seq (wpS_region ?_);show wpOpsS P #[oR] _ [0] _ _ w;simp only [wpOpsS];have h0:(#[oR]:Array Oper)[0]?=some oR:=rfl;rw [h0];simp only;have hw:∀y,Region.wanted oR y=true:=λy=>by simp [Region.wanted,hgR]
 rw [hw];simp only [aI,X];rcases hu with ⟨m,D,I⟩ | ⟨y,m,D,I⟩
 ·subst I;have:recoverD (d::Q)=none:=by simp [recoverD,G,m]
  rw [this];exact A _ (by rw [D,<-m,<-G])
 ·subst I;have:recoverD (d::Q)=some (x,{ d with mode:=p }::Q):=by simp [recoverD,G,m,D]
  rw [this];exact A _ rfl
theorem Le {α:Type} {E:List Ent} (hE:∀x∈E,dT P x) {L:List Sub} {f:Nat} {fn:Func} {c:Code} {As:List AC} {o1 oD:Oper} {g:Operand} {gid idD:Nat} {acB:AC} {cB:Code} (hf:P.funcs[f]?=some fn)
  (hb:fn.body=some c) (hcB:acB.code=cB) (hc:CN As (.seq (.region idD #[o1,oD] false) cB)=c) (hLA:∀x∈As,iu P fn.ntmps L x) (hLB:iu P fn.ntmps L acB) (hg1:o1.guard=none) (hgD:oD.guard=none)
  (hoD:oD.op=.defer ⟨.value g,#[],#[]⟩) (hdD:oD.dst=none)
  {EC:List Ent} (hEC:∀x∈EC,dT P x) {LC:List Sub} {n:Func} {F:AC} {idR:Nat} {oR:Oper} {tr:Nat} {crest:Code} (hfC:P.funcs[gid]?=some n)
  (hbC:n.body=some (.seq (.region idR #[oR] false) crest)) (hoR:oR.op=.call ⟨.builtin .recover,#[],#[]⟩) (hgR:oR.guard=none) (hdR:oR.dst=some tr) (O:n.results=#[]) (hcC:F.code=crest)
  (hLC:iu P n.ntmps LC F) (hEn:jc P gid)
  {args:List V} {H0:List (Nat×Blk)} {nb0 ro rb:Nat} {K:Bool->V->St->Option α} {z:α} (hn:Nat.ble args.length fn.ntmps=true)
  (h:OT P E L fn.ntmps As o1 g gid acB EC LC n.ntmps F tr fn.results.toList K ⟨qg args 0,H0,nb0,nb0,ro,rb⟩=some z):yq P f args H0 nb0 ro K z:=by
 intro ι0 w M hW hfz hgl hx;have hlen:M.size=args.length:=by simpa using hx.length
 have hn:=aD hn;refine calls_of_wp_defers hf hb ?_;rw [<-hc];have hI:Inv fn.ntmps ι0 ⟨w,[]⟩ ι0 ⟨qg args 0,H0,nb0,nb0,ro,rb⟩ { tmps:=M++Array.replicate (fn.ntmps - M.size) undef,defers:=[] } w:=by
  refine ⟨by simp;omega,rfl,λt v R=>?_,hW,λ_ _ h=>.inl h,λ_ q h=>.inl ⟨q,h,rfl⟩,Fr.refl _ _,λb r h=>hW.low b r h,hfz,hgl⟩;rw [o6,ae (gf _)] at R;simp only [pP] at R;cases hl:args[t]? with
  | none=>simp [hl] at R
  | some u=>
   simp only [hl,dC,ah] at R;subst R;obtain ⟨x,o,i⟩:=hx.get hl;have h1':M[t]?=some x:=by simpa using o
   have hlt:t<M.size:=by
    rcases aE t M.size with h' | h'
    ·exact h'
    ·rw [tZ h'] at h1';cases h1'
   exact ⟨x,by rw [Oc hlt];exact h1',i⟩
 have Z:∀{D:List Deferred} (s':St) (k:Inj) (C:Act) (w':World),Inv fn.ntmps ι0 ⟨w,D⟩ k s' C w'->finK P fn.results.toList K .ret s'=some z->
   ∃v,(results fn C.tmps).run P w'=.ok v w'/\∃(pan:Bool) (u:V) (s:St) (ι:Inj),K pan u s=some z/\(∀b q,ι0 b=some q->ι b=some q\/s.rb<=b)/\(∀b q,ι b=some (some q)->(∃W,ι0 b=some (some W)/\W.r=q.r)\/w.heap.size<=q.r)/\
   WR ι s.H s.nb w'/\(∀b q,ι b=some (some q)->q.fz=true->b<s.ro)/\Fr (roI ι0 s.ro) w w'/\RetR ι { val:=u,pan:=pan } (.returned v):=by
  intro D s' k C w' i m;simp only [finK] at m;obtain ⟨v,x,g1,N,g3⟩:=xd (fn:=fn) (c:=λv=>K false v s') i m;exact ⟨x,g3,false,v,s',k,g1,i.ext,i.new,i.mem,i.fz,i.fr,rfl,N⟩
 refine Iq hE ?_ ?_ As _ ι0 _ w hLA hI h
 ·
  intro s ι a w1 hI1 hk;simp only at hk;refine wp_seq (wp_region_lit (l:=[o1,oD]) ?_);unfold wpList;have hw1:∀y,Region.wanted o1 y=true:=λy=>by simp [Region.wanted,hg1]
  have hwD:∀y,Region.wanted oD y=true:=λy=>by simp [Region.wanted,hgD]
  rw [hw1];simp only [aI];refine .inl (xk hE hI1 (λb hb=>hI1.fresh b hb) (aM _) hk (λU G a2 S A d=>?_) (λv s' k x C w' hk=>by cases hk));split at A
  case h_2=>cases A
  rename_i J cap hgo;split at A
  case h_2=>cases A
  rename_i T;simp only [az,gP] at T;obtain ⟨Q,hff2⟩:=T;subst Q;obtain ⟨I,hv1,hv2⟩:=Np d.tmps hgo;rw [CM hff2] at hv1;unfold wpList;rw [hwD];simp only [aI];refine .inl ?_;unfold Oper.wp;have X:(execOp a2.eval oD).run P S=.ok (.defer { target:=.fn (.func J) I,args:=#[] }) S:=by
   simp only [execOp,hoD,resolve,hv1,Deferred.ofValue,aq,aB,ax];simp
  rw [X,Oper.upon_defer,hdD];simp only [Act.put];unfold wpList;simp only [Exit.then];have B:Inv fn.ntmps ι0 ⟨w,[{ target:=.fn (.func J) I,args:=#[] }]⟩ G U { a2 with defers:={ target:=.fn (.func J) I,args:=#[] }::a2.defers } S:=
   ⟨d.size,by rw [d.defers],d.tmps,d.mem,d.ext,d.new,d.fr,d.low,d.fz,d.gl⟩
  subst hcB;refine qL ?_ (mr hE acB _ _ z hLB A G ⟨S,[{ target:=.fn (.func J) I,args:=#[] }]⟩ G _ S (B.inner B.defers));rintro e C w' ⟨ex,s',k,o,i,m⟩;split at m
  case h_2=>cases m
  rename_i hro;simp only [az,gP] at hro;obtain ⟨p,Y⟩:=hro;obtain ⟨hext,o1,o2,o3,o4⟩:=B.outer rfl i p Y;have hI4:Inv fn.ntmps ι0 ⟨w,[{ target:=.fn (.func J) I,args:=#[] }]⟩ k { s' with lo:=U.lo,rb:=U.rb } C w':=
   ⟨i.size,i.defers,i.tmps,i.mem,o1,o2,by show Fr (roI ι0 s'.ro) w w';rw [p];exact o3,d.low,λb q hb hq=>by have:=o4 b q hb hq;simp only;omega,by show GL (roI ι0 s'.ro) w;rw [p];exact B.gl⟩
  have hcv:=VRs.mono hext _ _ hv2;have j:∀(v:V) (x:Value) (u u':FrameMode),VR k v x->u≠.run->(settle u'=.returning)->
    ((u=.returning/\u'=.returning/\x=.nilIface)\/∃y,u=.panicking [{ v:=y,recovered:=false }]/\u'=.panicking [{ v:=y,recovered:=true }]/\x=y)->
    we P EC LC n.ntmps F tr cap v { s' with lo:=U.lo,rb:=U.rb } (λs=>finK P fn.results.toList K .ret s)=some z->
    Leaves P fn C.tmps (λe w'=>∃(pan:Bool) (u:V) (s:St) (ι:Inj),K pan u s=some z/\(∀b q,ι0 b=some q->ι b=some q\/s.rb<=b)/\(∀b q,ι b=some (some q)->(∃W,ι0 b=some (some W)/\W.r=q.r)\/w.heap.size<=q.r)/\
     WR ι s.H s.nb w'/\(∀b q,ι b=some (some q)->q.fz=true->b<s.ro)/\Fr (roI ι0 s.ro) w w'/\RetR ι { val:=u,pan:=pan } e) C.defers u w':=by
   intro v x u u' hvx hur hset hu ha;rw [i.defers];refine leaves_cons hur (f:=J) (args:=I.toList.toArray) ?_ ?_
   ·have:=hEn I w';simpa [invoke] using this
   ·refine (G1 hEC hfC hbC hoR hgR hdR O hcC hLC ha hI4 hcv hvx hu).mono ?_;rintro e u'' w'' ⟨rfl,y,s3,ι3,rfl,h4,h5,h6⟩;obtain ⟨v,g1,N⟩:=Z s3 ι3 C w'' h5 h4;simp only [hset];exact ⟨v,g1,N⟩
  cases ex with
  | normal=>simp only [ExR] at o;subst o;exact j .ni .nilIface .returning .returning (by simp [VR]) (by simp) rfl (.inl ⟨rfl,rfl,rfl⟩) m
  | ret=>simp only [ExR] at o;subst o;exact j .ni .nilIface .returning .returning (by simp [VR]) (by simp) rfl (.inl ⟨rfl,rfl,rfl⟩) m
  | exit id=>cases m
  | pan v=>
   obtain ⟨x,rfl,hx⟩:=o;exact j v x (.panicking [{ v:=x,recovered:=false }]) (.panicking [{ v:=x,recovered:=true }]) hx (by simp) (by simp [settle]) (.inr ⟨x,rfl,rfl,rfl⟩) m
 ·rintro ex s ι e a w1 hne o i m;cases ex with
  | normal=>exact absurd rfl hne
  | exit id=>simp [finK] at m
  | ret=>
   simp only [ExR] at o;subst o;obtain ⟨v,g1,N⟩:=Z s ι a w1 i m;show Leaves P fn a.tmps _ a.defers .returning w1;rw [i.defers];exact ⟨v,g1,N⟩
  | pan v=>
   obtain ⟨x,rfl,hx⟩:=o;show Leaves P fn a.tmps _ a.defers (.panicking _) w1;rw [i.defers];exact ⟨true,v,s,ι,m,i.ext,i.new,i.mem,i.fz,i.fr,rfl,x,rfl,hx⟩
def nM:Nat->AC->List AC
 | n+1,.seq a b=>a::nM n b
 | _,_=>[]
def iS:Nat->AC->AC
 | n+1,.seq _ b=>iS n b
 | _,c=>c
theorem rB:∀(n:Nat) (c:AC),CN (nM n c) (iS n c).code=c.code
 | 0,c=>by simp [nM,iS,CN]
 | n+1,.seq a b=>by simp [nM,iS,CN,rB n b,AC.code]
 | n+1,.skip | n+1,.ret | n+1,.exit _ | n+1,.cond _ _ _ | n+1,.block _ _ | n+1,.reg _ _ | n+1,.draw _ _ | n+1,.sub _ _ | n+1,.loop _ | n+1,.scope _ | n+1,.label _ | n+1,.bad _=>by
  simp [nM,iS,CN]
def M3:AC->List Oper
 | .seq (.reg _ l) _=>l
 | _=>[]
def getO (l:List Oper) (i:Nat):Oper:=l.getD i default
theorem tX {n:Nat} {L:List Sub}:∀(k:Nat) (c:AC),iu P n L c->(∀x∈nM k c,iu P n L x)/\iu P n L (iS k c)
 | 0,c,h=>⟨by simp [nM],by simpa [iS] using h⟩
 | k+1,.seq a b,h=>by
  simp only [iu] at h;have:=tX k b h.2;exact ⟨λx hx=>by
   simp only [nM,cq] at hx;rcases hx with rfl | hx
   ·exact h.1
   ·exact this.1 x hx,by simpa [iS] using this.2⟩
 | k+1,.skip,h | k+1,.ret,h | k+1,.exit _,h | k+1,.cond _ _ _,h | k+1,.block _ _,h | k+1,.reg _ _,h | k+1,.draw _ _,h | k+1,.sub _ _,h | k+1,.loop _,h | k+1,.scope _,h | k+1,.label _,h | k+1,.bad _,h=>by
  exact ⟨by simp [nM],by simpa [iS] using h⟩
theorem J4 {α:Type} {E:List Ent} (G:∀x∈E,dT P x) {L:List Sub} {f:Nat} {fn:Func} {c:Code} {ac:AC} {k:Nat} {o1 oD:Oper} {g:Operand} {gid idD:Nat} {acB:AC} (H:P.funcs[f]?=some fn)
  (F:fn.body=some c) (y:ac.code=c) (e:iS k ac=.seq (.reg idD [o1,oD]) acB) (D:iu P fn.ntmps L ac) (w:o1.guard=none) (o:oD.guard=none)
  (s:oD.op=.defer ⟨.value g,#[],#[]⟩) (j:oD.dst=none)
  {EC:List Ent} (l:∀x∈EC,dT P x) {C:List Sub} {b:Func} {B:Code} {a:AC} {idR:Nat} {oR:Oper} {tr:Nat} (r:P.funcs[gid]?=some b)
  (t:b.body=some B) (n:a.code=B) (i:iS 0 a=.seq (.reg idR [oR]) (iS 1 a)) (p:oR.op=.call ⟨.builtin .recover,#[],#[]⟩) (m:oR.guard=none) (A:oR.dst=some tr) (d:b.results=#[])
  (q:iu P b.ntmps C a) (u:jc P gid)
  {args:List V} {H0:List (Nat×Blk)} {nb0 ro rb:Nat} {K:Bool->V->St->Option α} {z:α} (I:Nat.ble args.length fn.ntmps=true)
  (h:OT P E L fn.ntmps (nM k ac) o1 g gid acB EC C b.ntmps (iS 1 a) tr fn.results.toList K ⟨qg args 0,H0,nb0,nb0,ro,rb⟩=some z):yq P f args H0 nb0 ro K z:=by
 have hs:=tX k ac D;have v:iu P fn.ntmps L acB:=by
  have:=hs.2;rw [e] at this;simp only [iu] at this;exact this.2
 refine Le G H F rfl (As:=nM k ac) (o1:=o1) (oD:=oD) (idD:=idD) (acB:=acB) ?_ hs.1 v w o s j l r (idR:=idR) (oR:=oR) (crest:=(iS 1 a).code) ?_ p m A d rfl (tX 1 a q).2 u I h
 ·rw [<-y,<-rB k ac,e];rfl
 ·rw [t,<-n,<-rB 0 a,i];rfl
end Go.Abs
