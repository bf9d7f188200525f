
import Derived.Test.YtjkmipianfkncaaGreatDoorAbsP
import Derived.Recover
set_option linter.unusedSimpArgs false
set_option linter.unusedVariables false
set_option linter.defProp false
namespace Go.Abs
variable {P:Program}
def runL{α:Type}(P:Program)(E:List Ent)(L:List Sub)(n:Nat)(k:Ex->St->Option α):List AC->St->Option α
 | [],s=>k .normal s
 | a::l,s=>run P E L n a s λex s=>match ex with
  | .normal=>runL P E L n k l s
  | .exit id=>k (.exit id) s
  | .ret=>k .ret s
  | .pan v=>k (.pan v) s
def yH{α:Type}(P:Program)(E:List Ent)(L:List Sub)(c:Nat)(b:AC)(tr:Nat)(cap:List V)(v:V)(s:St)(k:St->Option α):Option α:=
 match Nat.blt tr c&&(Nat.ble cap.length c&&Nat.ble cap.length tr)with
 | true=>run P E L c b ⟨(tr,some v)::rP cap 0,s.H,s.nb,s.nb,s.ro,s.nb⟩ λex a=>match Nat.beq a.ro s.ro&&Nat.beq a.rb s.nb with
  | true=>match ex with
   | .normal=>k { s with H:=a.H,nb:=a.nb }
   | .ret=>k { s with H:=a.H,nb:=a.nb }
   | .exit _=>none
   | .pan _=>none
  | false=>none
 | false=>none
def Ri{α:Type}(P:Program)(E:List Ent)(L:List Sub)(n:Nat)(As:List AC)(o1:Oper)(g:Operand)(gid:Nat)(acB:AC)(EC:List Ent)(d:List Sub)(c:Nat)(a:AC)(tr:Nat)
  (b:List ResultVar) (K:Bool->V->St->Option α) (s:St):Option α:=
 runL P E L n (λex s=>match ex with
  | .normal=>Jk P E n s.nb o1 s (λs=>match opd s.T g with
   | some (.fn f cap)=>match Nat.beq f gid&&Nat.blt f 1000000 with
    | true=>run P E L n acB { s with lo:=s.nb,rb:=s.nb } λex s'=>match Nat.beq s'.ro s.ro&&Nat.beq s'.rb s.nb with
     | true=>match ex with
      | .normal=>yH P EC d c a tr cap .ni { s' with lo:=s.lo,rb:=s.rb } λs=>finK P b K .ret s
      | .ret=>yH P EC d c a tr cap .ni { s' with lo:=s.lo,rb:=s.rb } λs=>finK P b K .ret s
      | .pan v=>yH P EC d c a tr cap v { s' with lo:=s.lo,rb:=s.rb } λs=>finK P b K .ret s
      | .exit _=>none
     | false=>none
    | false=>none
   | _=>none) (λ_ _=>none)
  | .exit id=>finK P b K (.exit id) s
  | .ret=>finK P b K .ret s
  | .pan v=>finK P b K (.pan v) s) As s
def Da:List AC->Code->Code
 | [],c=>c
 | a::l,c=>.seq a.code (Da l c)
def Ld {α:Type} {E:List Ent} (o:∀x∈E,fK P x) {L:List Sub} {n:Nat} {k:Ex->St->Option α} {z:α} {c:Code} {ι0:Inj} {w0:Base} {Q:Exit->Act->World->Prop}
  (p:∀s ι a w,Inv n ι0 w0 ι s a w->k .normal s=some z->c.wp P Q a w)
  (j:∀ex s ι e a w,ex≠.normal->ExR ι ex e->Inv n ι0 w0 ι s a w->k ex s=some z->Q e a w):∀(As:List AC) (s:St) (ι:Inj) (a:Act) (w:World),(∀x∈As,jv P n L x)->
   Inv n ι0 w0 ι s a w->runL P E L n k As s=some z->(Da As c).wp P Q a w
 | [],s,ι,a,w,_,m,h=>p s ι a w m h
 | x::l,s,ι,a,w,hs,m,h=>by
  simp only [runL] at h;refine wp_seq (wp_mono (nY o x s _ z (hs x (by simp)) h ι0 w0 ι a w m) ?_);rintro e g w' ⟨ex,s',b,d,f,i⟩;cases ex with
  | normal=>simp only [ExR] at d;subst d;exact Ld o p j l s' b g w' (λy hy=>hs y (gW _ hy)) f i
  | exit id=>simp only [ExR] at d;subst d;exact j (.exit id) s' b _ g w' (by simp) rfl f i
  | ret=>simp only [ExR] at d;subst d;exact j .ret s' b _ g w' (by simp) rfl f i
  | pan v=>obtain ⟨y,rfl,hx⟩:=d;exact j (.pan v) s' b _ g w' (by simp) ⟨y,rfl,hx⟩ f i
def Inv.inner{n:Nat}{ι0 ι:Inj}{w0:Base}{s:St}{a:Act}{w:World}{D:List Deferred}(C:Inv n ι0 w0 ι s a w)(F:a.defers=D):Inv n ι ⟨w,D⟩ ι { s with lo:=s.nb,rb:=s.nb } a w:=
 ⟨C.size,F,C.tmps,C.mem,λ_ _ h=>.inl h,λ_ q h=>.inl ⟨q,h,rfl⟩,Fr.refl _ _,λb r h=>C.mem.low b r h,C.fz,C.glHere λ_ _ E=>⟨oJ E,JX E⟩⟩
def Inv.outer {n n':Nat} {ι0 ι C:Inj} {w0 w1:Base} {s s':St} {a a':Act} {w w':World} (O:Inv n ι0 w0 ι s a w) (hw:w1.w=w) (F:Inv n' ι w1 C s' a' w') (W:s'.ro=s.ro) (hrb:s'.rb=s.nb):
  (∀b q,ι b=some q->C b=some q)/\(∀b q,ι0 b=some q->C b=some q\/s.rb<=b)/\(∀b q,C b=some (some q)->(∃Q,ι0 b=some (some Q)/\Q.r=q.r)\/w0.w.heap.size<=q.r)/\Fr (roI ι0 s.ro) w0.w w'/\
   (∀b q,C b=some (some q)->q.fz=true->b<s.ro):=by
 subst hw;have G:∀b q,ι b=some q->C b=some q:=by
  intro b q E;rcases F.ext b q E with h | h
  ·exact h
  ·have:=O.mem.low b q E;omega
 refine ⟨G,λb q E=>(O.ext b q E).imp (G b q) id,λb q E=>?_,O.fr.trans (λb q E=>?_) F.fr,λb q E hq=>by have:=F.fz b q E hq;omega⟩
 ·rcases F.new b q E with ⟨Q,Y,X⟩ | h
  ·rw [<-X];exact O.new b Q Y
  ·exact .inr (pt O.fr.size h)
 ·have Z:=oJ E;have U:s.ro<=b:=by
   rw [W] at E;unfold roI at E;cases J:Nat.blt b s.ro with
   | true=>simp [J] at E
   | false=>
    rcases aF b s.ro with h | h
    ·rw [show Nat.blt b s.ro=true from dF h] at J;cases J
    ·exact h
  exact (O.new b q Z).imp (λ⟨Q,h,X⟩=>⟨Q,A3 h U,X⟩) id
def Ic{α:Type}{E:List Ent}(hE:∀x∈E,fK P x){L:List Sub}{g:Nat}{fn:Func}{m:AC}{idR:Nat}{oR:Oper}{tr:Nat}{crest:Code}(hf:P.funcs[g]?=some fn)
  (hb:fn.body=some (.seq (.region idR #[oR] false) crest)) (hoR:oR.op=.call ⟨.builtin .recover,#[],#[]⟩) (hgR:oR.guard=none) (hdR:oR.dst=some tr) (Y:fn.results=#[]) (hc:m.code=crest)
  (hL:jv P fn.ntmps L m) {cap:List V} {v:V} {s:St} {k:St->Option α} {z:α} (h:yH P E L fn.ntmps m tr cap v s k=some z)
  {n:Nat} {ι0 ι:Inj} {w0:Base} {a:Act} {w:World} (i:Inv n ι0 w0 ι s a w) {j:List Value} (o:VRs ι cap j) {x:Value} (hx:VR ι v x) {u B:FrameMode}
  (hu:(u=.returning/\B=.returning/\x=.nilIface)\/∃y,u=.panicking [{ v:=y,recovered:=false }]/\B=.panicking [{ v:=y,recovered:=true }]/\x=y):
  CallsD P g j.toArray u w λe I w'=>I=B/\∃(y:Value) (s':St) (G:Inj),e=.returned y/\k s'=some z/\Inv n ι0 w0 G s' a w'/\s'.T=s.T:=by
 unfold yH at h;split at h
 case h_2=>cases h
 rename_i f;simp only[aB]at f;have htr:tr<fn.ntmps:=aG f.1;have hcl:cap.length<=fn.ntmps:=aG f.2.1;have hct:cap.length<=tr:=aG f.2.2;have hlen:j.length=cap.length:=o.length;refine callsD_of_wpS hf hb λd S C=>?_;have Q:∀a:Act,(execOp a.eval oR).run P w=.ok .recover w:=by
  intro a;simp[execOp,hoR,resolve,invoke,builtin]
 have A:∀F:List Frame,F={ d with mode:=B }::S->
   crest.wpS P (bodyPostS P fn d S λe I w'=>I=B/\∃(y:Value) (s':St) (G:Inj),e=.returned y/\k s'=some z/\Inv n ι0 w0 G s' a w'/\s'.T=s.T)
    (({ tmps:=j.toArray++Array.replicate (fn.ntmps - j.toArray.size) undef,defers:=[] }:Act).put oR.dst x) F w:=by
  intro F hfs;have hI2:Inv fn.ntmps ι ⟨w,[]⟩ ι ⟨(tr,some v)::rP cap 0,s.H,s.nb,s.nb,s.ro,s.nb⟩ (({ tmps:=j.toArray++Array.replicate (fn.ntmps - j.toArray.size) undef,defers:=[] }:Act).put oR.dst x) w:=by
   refine⟨by rw[mq];simp;omega,by rw[i6],?_,i.mem,λ_ _ h=>.inl h,λ_ q h=>.inl ⟨q,h,rfl⟩,Fr.refl _ _,λb r h=>i.mem.low b r h,i.fz,i.glHere λ_ _ hb=>⟨oJ hb,JX hb⟩⟩;rw[hdR];refine TR.put (λt u Z=>?_) (by simp;omega) (λu hu=>by cases hu;exact hx);rw[qB,ae (dh _)]at Z;simp only[rF]at Z;cases hl:cap[t]? with
   | none=>simp[hl]at Z
   | some u=>
    simp only[hl,eO,ar]at Z;subst Z;obtain⟨x,N,O⟩:=o.get hl;have h1':j.toArray[t]?=some x:=by simpa using N
    have hlt:t<j.toArray.size:=by
     rcases aF t j.toArray.size with h' | h'
     ·exact h'
     ·rw[xj h']at h1';cases h1'
    exact⟨x,by rw[Qr hlt];exact h1',O⟩
  subst hc hfs;refine wpS_of_wp (sR ?_ (nY hE m _ _ z hL h ι ⟨w,[]⟩ ι _ w hI2));rintro e a' w' ⟨ex,s2,D,N,O,M⟩;split at M
  case h_2=>cases M
  rename_i R;simp only[aB,iU]at R;obtain⟨W,U⟩:=R;obtain⟨X,o1,o2,o3,o4⟩:=i.outer rfl O W U;have p:Inv n ι0 w0 D { s with H:=s2.H,nb:=s2.nb } a w':=⟨i.size,i.defers,i.tmps.mono X,O.mem,o1,o2,o3,i.low,o4,i.gl⟩;have c:(results fn a'.tmps).run P w'=.ok (.tuple #[]) w':=by
   rw[ym,Y];simp[aA]
  cases ex with
  | normal=>simp only[ExR]at N;subst N;exact⟨O.defers,B,rfl,_,c,rfl,_,_,D,rfl,M,p,rfl⟩
  | ret=>simp only[ExR]at N;subst N;exact⟨O.defers,B,rfl,_,c,rfl,_,_,D,rfl,M,p,rfl⟩
  | exit id=>cases M
  | pan v=>cases M
 refine wpS_seq (wpS_region ?_);show wpOpsS P #[oR] _ [0] _ _ w;simp only[wpOpsS];have h0:(#[oR]:Array Oper)[0]?=some oR:=rfl;rw[h0];simp only;have hw:∀y,Region.wanted oR y=true:=λy=>by simp[Region.wanted,hgR]
 rw[hw];simp only[aH,Q];rcases hu with⟨l,K,J⟩ | ⟨y,l,K,J⟩
 ·subst J;have:recoverD (d::S)=none:=by simp[recoverD,C,l]
  rw[this];exact A _ (by rw[K,<-l,<-C])
 ·subst J;have:recoverD (d::S)=some (x,{ d with mode:=B }::S):=by simp[recoverD,C,l,K]
  rw[this];exact A _ rfl
def MZ{α:Type}{E:List Ent}(hE:∀x∈E,fK P x){L:List Sub}{f:Nat}{fn:Func}{c:Code}{As:List AC}{o1 oD:Oper}{g:Operand}{gid idD:Nat}{acB:AC}{cB:Code}(hf:P.funcs[f]?=some fn)
  (W:fn.body=some c) (hcB:acB.code=cB) (hc:Da As (.seq (.region idD #[o1,oD] false) cB)=c) (hLA:∀x∈As,jv P fn.ntmps L x) (hLB:jv P fn.ntmps L acB) (hg1:o1.guard=none) (hgD:oD.guard=none)
  (hoD:oD.op=.defer ⟨.value g,#[],#[]⟩) (hdD:oD.dst=none)
  {EC:List Ent} (hEC:∀x∈EC,fK P x) {LC:List Sub} {m:Func} {F:AC} {idR:Nat} {oR:Oper} {tr:Nat} {crest:Code} (hfC:P.funcs[gid]?=some m)
  (hbC:m.body=some (.seq (.region idR #[oR] false) crest)) (hoR:oR.op=.call ⟨.builtin .recover,#[],#[]⟩) (hgR:oR.guard=none) (hdR:oR.dst=some tr) (S:m.results=#[]) (hcC:F.code=crest)
  (hLC:jv P m.ntmps LC F) (hEn:lR P gid)
  {args:List V} {H0:List (Nat×Blk)} {nb0 ro rb:Nat} {K:Bool->V->St->Option α} {z:α} (hn:Nat.ble args.length fn.ntmps=true)
  (h:Ri P E L fn.ntmps As o1 g gid acB EC LC m.ntmps F tr fn.results.toList K ⟨rP args 0,H0,nb0,nb0,ro,rb⟩=some z):Ag P f args H0 nb0 ro K z:=by
 intro ι0 w M hW hfz hgl hx;have hlen:M.size=args.length:=by simpa using hx.length
 have hn:=aG hn;refine calls_of_wp_defers hf W ?_;rw[<-hc];have hI:Inv fn.ntmps ι0 ⟨w,[]⟩ ι0 ⟨rP args 0,H0,nb0,nb0,ro,rb⟩ { tmps:=M++Array.replicate (fn.ntmps - M.size) undef,defers:=[] } w:=by
  refine⟨by simp;omega,rfl,λt v hv=>?_,hW,λ_ _ h=>.inl h,λ_ q h=>.inl ⟨q,h,rfl⟩,Fr.refl _ _,λb r h=>hW.low b r h,hfz,hgl⟩;rw[qB,ae (dh _)]at hv;simp only[rF]at hv;cases hl:args[t]? with
  | none=>simp[hl]at hv
  | some u=>
   simp only[hl,eO,ar]at hv;subst hv;obtain⟨x,o,i⟩:=hx.get hl;have h1':M[t]?=some x:=by simpa using o
   have hlt:t<M.size:=by
    rcases aF t M.size with h' | h'
    ·exact h'
    ·rw[xj h']at h1';cases h1'
   exact⟨x,by rw[Qr hlt];exact h1',i⟩
 have O:∀{D:List Deferred} (s':St) (j:Inj) (C:Act) (w':World),Inv fn.ntmps ι0 ⟨w,D⟩ j s' C w'->finK P fn.results.toList K .ret s'=some z->
   ∃v,(results fn C.tmps).run P w'=.ok v w'/\∃(pan:Bool) (u:V) (s:St) (ι:Inj),K pan u s=some z/\(∀b q,ι0 b=some q->ι b=some q\/s.rb<=b)/\(∀b q,ι b=some (some q)->(∃Y,ι0 b=some (some Y)/\Y.r=q.r)\/w.heap.size<=q.r)/\
   WR ι s.H s.nb w'/\(∀b q,ι b=some (some q)->q.fz=true->b<s.ro)/\Fr (roI ι0 s.ro) w w'/\RetR ι { val:=u,pan:=pan } (.returned v):=by
  intro D s' j C w' i n;simp only[finK]at n;obtain⟨v,x,X,g2,g3⟩:=yz (fn:=fn) (c:=λv=>K false v s') i n;exact⟨x,g3,false,v,s',j,X,i.ext,i.new,i.mem,i.fz,i.fr,rfl,g2⟩
 refine Ld hE ?_ ?_ As _ ι0 _ w hLA hI h
 ·
  intro s ι a w1 U hk;simp only at hk;refine wp_seq (wp_region_lit (l:=[o1,oD]) ?_);unfold wpList;have hw1:∀y,Region.wanted o1 y=true:=λy=>by simp[Region.wanted,hg1]
  have hwD:∀y,Region.wanted oD y=true:=λy=>by simp[Region.wanted,hgD]
  rw[hw1];simp only[aH];refine .inl (zf hE U (λb W=>U.fresh b W) (aQ _) hk (λR I a2 Q A d=>?_) (λv s' j x C w' hk=>by cases hk));split at A
  case h_2=>cases A
  rename_i J cap hgo;split at A
  case h_2=>cases A
  rename_i hff;simp only[aB,iU]at hff;obtain⟨Z,hff2⟩:=hff;subst Z;obtain⟨G,hv1,hv2⟩:=ON d.tmps hgo;rw[Di hff2]at hv1;unfold wpList;rw[hwD];simp only[aH];refine .inl ?_;unfold Oper.wp;have N:(execOp a2.eval oD).run P Q=.ok (.defer { target:=.fn (.func J) G,args:=#[] }) Q:=by
   simp only[execOp,hoD,resolve,hv1,Deferred.ofValue,aw,aA,ay];simp
  rw[N,Oper.upon_defer,hdD];simp only[Act.put];unfold wpList;simp only[Exit.then];have B:Inv fn.ntmps ι0 ⟨w,[{ target:=.fn (.func J) G,args:=#[] }]⟩ I R { a2 with defers:={ target:=.fn (.func J) G,args:=#[] }::a2.defers } Q:=
   ⟨d.size,by rw[d.defers],d.tmps,d.mem,d.ext,d.new,d.fr,d.low,d.fz,d.gl⟩
  subst hcB;refine sR ?_ (nY hE acB _ _ z hLB A I ⟨Q,[{ target:=.fn (.func J) G,args:=#[] }]⟩ I _ Q (B.inner B.defers));rintro e C w' ⟨ex,s',j,o,i,n⟩;split at n
  case h_2=>cases n
  rename_i hro;simp only[aB,iU]at hro;obtain⟨p,T⟩:=hro;obtain⟨hext,o1,o2,o3,o4⟩:=B.outer rfl i p T;have hI4:Inv fn.ntmps ι0 ⟨w,[{ target:=.fn (.func J) G,args:=#[] }]⟩ j { s' with lo:=R.lo,rb:=R.rb } C w':=
   ⟨i.size,i.defers,i.tmps,i.mem,o1,o2,by show Fr (roI ι0 s'.ro) w w';rw[p];exact o3,d.low,λb q W hq=>by have:=o4 b q W hq;simp only;omega,by show GL (roI ι0 s'.ro) w;rw[p];exact B.gl⟩
  have hcv:=VRs.mono hext _ _ hv2;have k:∀(v:V) (x:Value) (u u':FrameMode),VR j v x->u≠.run->(settle u'=.returning)->
    ((u=.returning/\u'=.returning/\x=.nilIface)\/∃y,u=.panicking [{ v:=y,recovered:=false }]/\u'=.panicking [{ v:=y,recovered:=true }]/\x=y)->
    yH P EC LC m.ntmps F tr cap v { s' with lo:=R.lo,rb:=R.rb } (λs=>finK P fn.results.toList K .ret s)=some z->
    Leaves P fn C.tmps (λe w'=>∃(pan:Bool) (u:V) (s:St) (ι:Inj),K pan u s=some z/\(∀b q,ι0 b=some q->ι b=some q\/s.rb<=b)/\(∀b q,ι b=some (some q)->(∃Y,ι0 b=some (some Y)/\Y.r=q.r)\/w.heap.size<=q.r)/\
     WR ι s.H s.nb w'/\(∀b q,ι b=some (some q)->q.fz=true->b<s.ro)/\Fr (roI ι0 s.ro) w w'/\RetR ι { val:=u,pan:=pan } e) C.defers u w':=by
   intro v x u u' hvx hur hset hu ha;rw[i.defers];refine leaves_cons hur (f:=J) (args:=G.toList.toArray) ?_ ?_
   ·have:=hEn G w';simpa[invoke]using this
   ·refine(Ic hEC hfC hbC hoR hgR hdR S hcC hLC ha hI4 hcv hvx hu).mono ?_;rintro e u'' w'' ⟨rfl,y,s3,ι3,rfl,h4,h5,h6⟩;obtain⟨v,X,g2⟩:=O s3 ι3 C w'' h5 h4;simp only[hset];exact⟨v,X,g2⟩
  cases ex with
  | normal=>simp only[ExR]at o;subst o;exact k .ni .nilIface .returning .returning (by simp[VR]) (by simp) rfl (.inl ⟨rfl,rfl,rfl⟩) n
  | ret=>simp only[ExR]at o;subst o;exact k .ni .nilIface .returning .returning (by simp[VR]) (by simp) rfl (.inl ⟨rfl,rfl,rfl⟩) n
  | exit id=>cases n
  | pan v=>
   obtain⟨x,rfl,hx⟩:=o;exact k v x (.panicking [{ v:=x,recovered:=false }]) (.panicking [{ v:=x,recovered:=true }]) hx (by simp) (by simp[settle]) (.inr ⟨x,rfl,rfl,rfl⟩) n
 ·rintro ex s ι e a w1 hne o i n;cases ex with
  | normal=>exact absurd rfl hne
  | exit id=>simp[finK]at n
  | ret=>
   simp only[ExR]at o;subst o;obtain⟨v,X,g2⟩:=O s ι a w1 i n;show Leaves P fn a.tmps _ a.defers .returning w1;rw[i.defers];exact⟨v,X,g2⟩
  | pan v=>
   obtain⟨x,rfl,hx⟩:=o;show Leaves P fn a.tmps _ a.defers (.panicking _) w1;rw[i.defers];exact⟨true,v,s,ι,n,i.ext,i.new,i.mem,i.fz,i.fr,rfl,x,rfl,hx⟩
def pm:Nat->AC->List AC
 | n+1,.seq a b=>a::pm n b
 | _,_=>[]
def jR:Nat->AC->AC
 | n+1,.seq _ b=>jR n b
 | _,c=>c
def tP:∀(n:Nat) (c:AC),Da (pm n c) (jR n c).code=c.code
 | 0,c=>by simp[pm,jR,Da]
 | n+1,.seq a b=>by simp[pm,jR,Da,tP n b,AC.code]
 | n+1,.skip | n+1,.ret | n+1,.exit _ | n+1,.cond _ _ _ | n+1,.block _ _ | n+1,.reg _ _ | n+1,.draw _ _ | n+1,.sub _ _ | n+1,.loop _ | n+1,.scope _ | n+1,.label _ | n+1,.bad _=>by
  simp[pm,jR,Da]
def OM:AC->List Oper
 | .seq (.reg _ l) _=>l
 | _=>[]
def getO(l:List Oper)(i:Nat):Oper:=l.getD i default
def wX{n:Nat}{L:List Sub}:∀(k:Nat) (c:AC),jv P n L c->(∀x∈pm k c,jv P n L x)/\jv P n L (jR k c)
 | 0,c,h=>⟨by simp[pm],by simpa[jR]using h⟩
 | k+1,.seq a b,h=>by
  simp only[jv]at h;have:=wX k b h.2;exact⟨λx hx=>by
   simp only[pm,cT]at hx;rcases hx with rfl | hx
   ·exact h.1
   ·exact this.1 x hx,by simpa[jR]using this.2⟩
 | k+1,.skip,h | k+1,.ret,h | k+1,.exit _,h | k+1,.cond _ _ _,h | k+1,.block _ _,h | k+1,.reg _ _,h | k+1,.draw _ _,h | k+1,.sub _ _,h | k+1,.loop _,h | k+1,.scope _,h | k+1,.label _,h | k+1,.bad _,h=>by
  exact⟨by simp[pm],by simpa[jR]using h⟩
def IG{α:Type}{E:List Ent}(F:∀x∈E,fK P x){L:List Sub}{f:Nat}{fn:Func}{c:Code}{ac:AC}{k:Nat}{o1 oD:Oper}{g:Operand}{gid idD:Nat}{acB:AC}(H:P.funcs[f]?=some fn)
  (G:fn.body=some c) (v:ac.code=c) (e:jR k ac=.seq (.reg idD [o1,oD]) acB) (D:jv P fn.ntmps L ac) (n:o1.guard=none) (p:oD.guard=none)
  (A:oD.op=.defer ⟨.value g,#[],#[]⟩) (s:oD.dst=none)
  {EC:List Ent} (u:∀x∈EC,fK P x) {C:List Sub} {b:Func} {B:Code} {a:AC} {idR:Nat} {oR:Oper} {tr:Nat} (o:P.funcs[gid]?=some b)
  (y:b.body=some B) (w:a.code=B) (d:jR 0 a=.seq (.reg idR [oR]) (jR 1 a)) (l:oR.op=.call ⟨.builtin .recover,#[],#[]⟩) (q:oR.guard=none) (r:oR.dst=some tr) (i:b.results=#[])
  (m:jv P b.ntmps C a) (t:lR P gid)
  {args:List V} {H0:List (Nat×Blk)} {nb0 ro rb:Nat} {K:Bool->V->St->Option α} {z:α} (I:Nat.ble args.length fn.ntmps=true)
  (h:Ri P E L fn.ntmps (pm k ac) o1 g gid acB EC C b.ntmps (jR 1 a) tr fn.results.toList K ⟨rP args 0,H0,nb0,nb0,ro,rb⟩=some z):Ag P f args H0 nb0 ro K z:=by
 have hs:=wX k ac D;have j:jv P fn.ntmps L acB:=by
  have:=hs.2;rw[e]at this;simp only[jv]at this;exact this.2
 refine MZ F H G rfl (As:=pm k ac) (o1:=o1) (oD:=oD) (idD:=idD) (acB:=acB) ?_ hs.1 j n p A s u o (idR:=idR) (oR:=oR) (crest:=(jR 1 a).code) ?_ l q r i rfl (wX 1 a m).2 t I h
 ·rw[<-v,<-tP k ac,e];rfl
 ·rw[y,<-w,<-tP 0 a,d];rfl
end Go.Abs
