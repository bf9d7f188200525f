
import Derived.Test.YtadejcglcffgbaaGreatDoorAbsP
import Derived.Recover
set_option linter.unusedSimpArgs false
set_option linter.unusedVariables false
set_option linter.defProp false
namespace Go.Abs
variable {P:Program}
def runL{α:Type}(P:Program)(E:List Ent)(L:List Sub)(n:Nat)(k:Ex->St->Option α):List AC->St->Option α
 | [],s=>k .normal s
 | a::l,s=>run P E L n a s λex s=>match ex with
  | .normal=>runL P E L n k l s
  | .exit id=>k (.exit id) s
  | .ret=>k .ret s
  | .pan v=>k (.pan v) s
def Ax{α:Type}(P:Program)(E:List Ent)(L:List Sub)(c:Nat)(b:AC)(tr:Nat)(cap:List V)(v:V)(s:St)(k:St->Option α):Option α:=
 match Nat.blt tr c&&(Nat.ble cap.length c&&Nat.ble cap.length tr)with
 | true=>run P E L c b ⟨(tr,some v)::tL cap 0,s.H,s.nb,s.nb,s.ro,s.nb⟩ λex a=>match Nat.beq a.ro s.ro&&Nat.beq a.rb s.nb with
  | true=>match ex with
   | .normal=>k { s with H:=a.H,nb:=a.nb }
   | .ret=>k { s with H:=a.H,nb:=a.nb }
   | .exit _=>none
   | .pan _=>none
  | false=>none
 | false=>none
def VM{α:Type}(P:Program)(E:List Ent)(L:List Sub)(n:Nat)(As:List AC)(o1:Oper)(g:Operand)(gid:Nat)(acB:AC)(EC:List Ent)(c:List Sub)(d:Nat)(a:AC)(tr:Nat)
  (b:List ResultVar) (K:Bool->V->St->Option α) (s:St):Option α:=
 runL P E L n (λex s=>match ex with
  | .normal=>LF P E n s.nb o1 s (λs=>match opd s.T g with
   | some (.fn f cap)=>match Nat.beq f gid&&Nat.blt f 1000000 with
    | true=>run P E L n acB { s with lo:=s.nb,rb:=s.nb } λex s'=>match Nat.beq s'.ro s.ro&&Nat.beq s'.rb s.nb with
     | true=>match ex with
      | .normal=>Ax P EC c d a tr cap .ni { s' with lo:=s.lo,rb:=s.rb } λs=>finK P b K .ret s
      | .ret=>Ax P EC c d a tr cap .ni { s' with lo:=s.lo,rb:=s.rb } λs=>finK P b K .ret s
      | .pan v=>Ax P EC c d a tr cap v { s' with lo:=s.lo,rb:=s.rb } λs=>finK P b K .ret s
      | .exit _=>none
     | false=>none
    | false=>none
   | _=>none) (λ_ _=>none)
  | .exit id=>finK P b K (.exit id) s
  | .ret=>finK P b K .ret s
  | .pan v=>finK P b K (.pan v) s) As s
def GG:List AC->Code->Code
 | [],c=>c
 | a::l,c=>.seq a.code (GG l c)
def Nl {α:Type} {E:List Ent} (o:∀x∈E,fC P x) {L:List Sub} {n:Nat} {k:Ex->St->Option α} {z:α} {c:Code} {ι0:Inj} {w0:Base} {Q:Exit->Act->World->Prop}
  (p:∀s ι a w,Inv n ι0 w0 ι s a w->k .normal s=some z->c.wp P Q a w)
  (i:∀ex s ι e a w,ex≠.normal->ExR ι ex e->Inv n ι0 w0 ι s a w->k ex s=some z->Q e a w):∀(As:List AC) (s:St) (ι:Inj) (a:Act) (w:World),(∀x∈As,jW P n L x)->
   Inv n ι0 w0 ι s a w->runL P E L n k As s=some z->(GG As c).wp P Q a w
 | [],s,ι,a,w,_,m,h=>p s ι a w m h
 | x::l,s,ι,a,w,hs,m,h=>by
  simp only [runL] at h;refine wp_seq (wp_mono (pV o x s _ z (hs x (by simp)) h ι0 w0 ι a w m) ?_);rintro e g w' ⟨ex,s',b,d,f,j⟩;cases ex with
  | normal=>simp only [ExR] at d;subst d;exact Nl o p i l s' b g w' (λy hy=>hs y (fD _ hy)) f j
  | exit id=>simp only [ExR] at d;subst d;exact i (.exit id) s' b _ g w' (by simp) rfl f j
  | ret=>simp only [ExR] at d;subst d;exact i .ret s' b _ g w' (by simp) rfl f j
  | pan v=>obtain ⟨y,rfl,hx⟩:=d;exact i (.pan v) s' b _ g w' (by simp) ⟨y,rfl,hx⟩ f j
def Inv.inner{n:Nat}{ι0 ι:Inj}{w0:Base}{s:St}{a:Act}{w:World}{D:List Deferred}(C:Inv n ι0 w0 ι s a w)(F:a.defers=D):Inv n ι ⟨w,D⟩ ι { s with lo:=s.nb,rb:=s.nb } a w:=
 ⟨C.size,F,C.tmps,C.mem,λ_ _ h=>.inl h,λ_ q h=>.inl ⟨q,h,rfl⟩,Fr.refl _ _,λb r h=>C.mem.low b r h,C.fz,C.glHere λ_ _ E=>⟨qd E,N2 E⟩⟩
def Inv.outer {n n':Nat} {ι0 ι E:Inj} {w0 w1:Base} {s s':St} {a a':Act} {w w':World} (Q:Inv n ι0 w0 ι s a w) (hw:w1.w=w) (F:Inv n' ι w1 E s' a' w') (X:s'.ro=s.ro) (hrb:s'.rb=s.nb):
  (∀b q,ι b=some q->E b=some q)/\(∀b q,ι0 b=some q->E b=some q\/s.rb<=b)/\(∀b q,E b=some (some q)->(∃O,ι0 b=some (some O)/\O.r=q.r)\/w0.w.heap.size<=q.r)/\Fr (roI ι0 s.ro) w0.w w'/\
   (∀b q,E b=some (some q)->q.fz=true->b<s.ro):=by
 subst hw;have G:∀b q,ι b=some q->E b=some q:=by
  intro b q C;rcases F.ext b q C with h | h
  ·exact h
  ·have:=Q.mem.low b q C;omega
 refine ⟨G,λb q C=>(Q.ext b q C).imp (G b q) id,λb q C=>?_,Q.fr.trans (λb q C=>?_) F.fr,λb q C hq=>by have:=F.fz b q C hq;omega⟩
 ·rcases F.new b q C with ⟨O,U,Y⟩ | h
  ·rw [<-Y];exact Q.new b O U
  ·exact .inr (qZ Q.fr.size h)
 ·have W:=qd C;have Z:s.ro<=b:=by
   rw [X] at C;unfold roI at C;cases J:Nat.blt b s.ro with
   | true=>simp [J] at C
   | false=>
    rcases aJ b s.ro with h | h
    ·rw [show Nat.blt b s.ro=true from cD h] at J;cases J
    ·exact h
  exact (Q.new b q W).imp (λ⟨O,h,Y⟩=>⟨O,Ds h Z,Y⟩) id
def KN{α:Type}{E:List Ent}(hE:∀x∈E,fC P x){L:List Sub}{g:Nat}{fn:Func}{m:AC}{idR:Nat}{oR:Oper}{tr:Nat}{crest:Code}(hf:P.funcs[g]?=some fn)
  (hb:fn.body=some (.seq (.region idR #[oR] false) crest)) (hoR:oR.op=.call ⟨.builtin .recover,#[],#[]⟩) (hgR:oR.guard=none) (hdR:oR.dst=some tr) (Y:fn.results=#[]) (hc:m.code=crest)
  (hL:jW P fn.ntmps L m) {cap:List V} {v:V} {s:St} {k:St->Option α} {z:α} (h:Ax P E L fn.ntmps m tr cap v s k=some z)
  {n:Nat} {ι0 ι:Inj} {w0:Base} {a:Act} {w:World} (i:Inv n ι0 w0 ι s a w) {j:List Value} (o:VRs ι cap j) {x:Value} (hx:VR ι v x) {u p:FrameMode}
  (hu:(u=.returning/\p=.returning/\x=.nilIface)\/∃y,u=.panicking [{ v:=y,recovered:=false }]/\p=.panicking [{ v:=y,recovered:=true }]/\x=y):
  CallsD P g j.toArray u w λe I w'=>I=p/\∃(y:Value) (s':St) (J:Inj),e=.returned y/\k s'=some z/\Inv n ι0 w0 J s' a w'/\s'.T=s.T:=by
 unfold Ax at h;split at h
 case h_2=>cases h
 rename_i f;simp only[aB]at f;have htr:tr<fn.ntmps:=aI f.1;have hcl:cap.length<=fn.ntmps:=aI f.2.1;have hct:cap.length<=tr:=aI f.2.2;have hlen:j.length=cap.length:=o.length;refine callsD_of_wpS hf hb λd W G=>?_;have R:∀a:Act,(execOp a.eval oR).run P w=.ok .recover w:=by
  intro a;simp[execOp,hoR,resolve,invoke,builtin]
 have B:∀K:List Frame,K={ d with mode:=p }::W->
   crest.wpS P (bodyPostS P fn d W λe I w'=>I=p/\∃(y:Value) (s':St) (J:Inj),e=.returned y/\k s'=some z/\Inv n ι0 w0 J s' a w'/\s'.T=s.T)
    (({ tmps:=j.toArray++Array.replicate (fn.ntmps - j.toArray.size) undef,defers:=[] }:Act).put oR.dst x) K w:=by
  intro K hfs;have hI2:Inv fn.ntmps ι ⟨w,[]⟩ ι ⟨(tr,some v)::tL cap 0,s.H,s.nb,s.nb,s.ro,s.nb⟩ (({ tmps:=j.toArray++Array.replicate (fn.ntmps - j.toArray.size) undef,defers:=[] }:Act).put oR.dst x) w:=by
   refine⟨by rw[nB];simp;omega,by rw[jB],?_,i.mem,λ_ _ h=>.inl h,λ_ q h=>.inl ⟨q,h,rfl⟩,Fr.refl _ _,λb r h=>i.mem.low b r h,i.fz,i.glHere λ_ _ hb=>⟨qd hb,N2 hb⟩⟩;rw[hdR];refine TR.put (λt u Z=>?_) (by simp;omega) (λu hu=>by cases hu;exact hx);rw[rU,ae (jr _)]at Z;simp only[tu]at Z;cases hl:cap[t]? with
   | none=>simp[hl]at Z
   | some u=>
    simp only[hl,fh,aq]at Z;subst Z;obtain⟨x,N,M⟩:=o.get hl;have h1':j.toArray[t]?=some x:=by simpa using N
    have hlt:t<j.toArray.size:=by
     rcases aJ t j.toArray.size with h' | h'
     ·exact h'
     ·rw[vV h']at h1';cases h1'
    exact⟨x,by rw[Uo hlt];exact h1',M⟩
  subst hc hfs;refine wpS_of_wp (uJ ?_ (pV hE m _ _ z hL h ι ⟨w,[]⟩ ι _ w hI2));rintro e a' w' ⟨ex,s2,F,N,M,O⟩;split at O
  case h_2=>cases O
  rename_i U;simp only[aB,js]at U;obtain⟨S,X⟩:=U;obtain⟨Q,o1,o2,o3,o4⟩:=i.outer rfl M S X;have A:Inv n ι0 w0 F { s with H:=s2.H,nb:=s2.nb } a w':=⟨i.size,i.defers,i.tmps.mono Q,M.mem,o1,o2,o3,i.low,o4,i.gl⟩;have c:(results fn a'.tmps).run P w'=.ok (.tuple #[]) w':=by
   rw[zM,Y];simp[aD]
  cases ex with
  | normal=>simp only[ExR]at N;subst N;exact⟨M.defers,p,rfl,_,c,rfl,_,_,F,rfl,O,A,rfl⟩
  | ret=>simp only[ExR]at N;subst N;exact⟨M.defers,p,rfl,_,c,rfl,_,_,F,rfl,O,A,rfl⟩
  | exit id=>cases O
  | pan v=>cases O
 refine wpS_seq (wpS_region ?_);show wpOpsS P #[oR] _ [0] _ _ w;simp only[wpOpsS];have h0:(#[oR]:Array Oper)[0]?=some oR:=rfl;rw[h0];simp only;have hw:∀y,Region.wanted oR y=true:=λy=>by simp[Region.wanted,hgR]
 rw[hw];simp only[aN,R];rcases hu with⟨l,D,C⟩ | ⟨y,l,D,C⟩
 ·subst C;have:recoverD (d::W)=none:=by simp[recoverD,G,l]
  rw[this];exact B _ (by rw[D,<-l,<-G])
 ·subst C;have:recoverD (d::W)=some (x,{ d with mode:=p }::W):=by simp[recoverD,G,l,D]
  rw[this];exact B _ rfl
def Qn{α:Type}{E:List Ent}(hE:∀x∈E,fC P x){L:List Sub}{f:Nat}{fn:Func}{c:Code}{As:List AC}{o1 oD:Oper}{g:Operand}{gid idD:Nat}{acB:AC}{cB:Code}(hf:P.funcs[f]?=some fn)
  (Z:fn.body=some c) (hcB:acB.code=cB) (hc:GG As (.seq (.region idD #[o1,oD] false) cB)=c) (hLA:∀x∈As,jW P fn.ntmps L x) (hLB:jW P fn.ntmps L acB) (hg1:o1.guard=none) (hgD:oD.guard=none)
  (hoD:oD.op=.defer ⟨.value g,#[],#[]⟩) (hdD:oD.dst=none)
  {EC:List Ent} (hEC:∀x∈EC,fC P x) {LC:List Sub} {m:Func} {F:AC} {idR:Nat} {oR:Oper} {tr:Nat} {crest:Code} (hfC:P.funcs[gid]?=some m)
  (hbC:m.body=some (.seq (.region idR #[oR] false) crest)) (hoR:oR.op=.call ⟨.builtin .recover,#[],#[]⟩) (hgR:oR.guard=none) (hdR:oR.dst=some tr) (Y:m.results=#[]) (hcC:F.code=crest)
  (hLC:jW P m.ntmps LC F) (hEn:lB P gid)
  {args:List V} {H0:List (Nat×Blk)} {nb0 ro rb:Nat} {K:Bool->V->St->Option α} {z:α} (hn:Nat.ble args.length fn.ntmps=true)
  (h:VM P E L fn.ntmps As o1 g gid acB EC LC m.ntmps F tr fn.results.toList K ⟨tL args 0,H0,nb0,nb0,ro,rb⟩=some z):BP P f args H0 nb0 ro K z:=by
 intro ι0 w J hW hfz hgl hx;have hlen:J.size=args.length:=by simpa using hx.length
 have hn:=aI hn;refine calls_of_wp_defers hf Z ?_;rw[<-hc];have hI:Inv fn.ntmps ι0 ⟨w,[]⟩ ι0 ⟨tL args 0,H0,nb0,nb0,ro,rb⟩ { tmps:=J++Array.replicate (fn.ntmps - J.size) undef,defers:=[] } w:=by
  refine⟨by simp;omega,rfl,λt v Q=>?_,hW,λ_ _ h=>.inl h,λ_ q h=>.inl ⟨q,h,rfl⟩,Fr.refl _ _,λb r h=>hW.low b r h,hfz,hgl⟩;rw[rU,ae (jr _)]at Q;simp only[tu]at Q;cases hl:args[t]? with
  | none=>simp[hl]at Q
  | some u=>
   simp only[hl,fh,aq]at Q;subst Q;obtain⟨x,A,i⟩:=hx.get hl;have h1':J[t]?=some x:=by simpa using A
   have hlt:t<J.size:=by
    rcases aJ t J.size with h' | h'
    ·exact h'
    ·rw[vV h']at h1';cases h1'
   exact⟨x,by rw[Uo hlt];exact h1',i⟩
 have fin:∀{D:List Deferred} (s':St) (j:Inj) (C:Act) (w':World),Inv fn.ntmps ι0 ⟨w,D⟩ j s' C w'->finK P fn.results.toList K .ret s'=some z->
   ∃v,(results fn C.tmps).run P w'=.ok v w'/\∃(pan:Bool) (u:V) (s:St) (ι:Inj),K pan u s=some z/\(∀b q,ι0 b=some q->ι b=some q\/s.rb<=b)/\(∀b q,ι b=some (some q)->(∃T,ι0 b=some (some T)/\T.r=q.r)\/w.heap.size<=q.r)/\
   WR ι s.H s.nb w'/\(∀b q,ι b=some (some q)->q.fz=true->b<s.ro)/\Fr (roI ι0 s.ro) w w'/\RetR ι { val:=u,pan:=pan } (.returned v):=by
  intro D s' j C w' i n;simp only[finK]at n;obtain⟨v,x,g1,O,g3⟩:=zX (fn:=fn) (c:=λv=>K false v s') i n;exact⟨x,g3,false,v,s',j,g1,i.ext,i.new,i.mem,i.fz,i.fr,rfl,O⟩
 refine Nl hE ?_ ?_ As _ ι0 _ w hLA hI h
 ·
  intro s ι a w1 N hk;simp only at hk;refine wp_seq (wp_region_lit (l:=[o1,oD]) ?_);unfold wpList;have hw1:∀y,Region.wanted o1 y=true:=λy=>by simp[Region.wanted,hg1]
  have hwD:∀y,Region.wanted oD y=true:=λy=>by simp[Region.wanted,hgD]
  rw[hw1];simp only[aN];refine .inl (B5 hE N (λb Z=>N.fresh b Z) (aU _) hk (λs2 G a2 w2 o d=>?_) (λv s' j x C w' hk=>by cases hk));split at o
  case h_2=>cases o
  rename_i M cap hgo;split at o
  case h_2=>cases o
  rename_i hff;simp only[aB,js]at hff;obtain⟨hff1,U⟩:=hff;subst hff1;obtain⟨I,R,hv2⟩:=Sm d.tmps hgo;rw[GM U]at R;unfold wpList;rw[hwD];simp only[aN];refine .inl ?_;unfold Oper.wp;have S:(execOp a2.eval oD).run P w2=.ok (.defer { target:=.fn (.func M) I,args:=#[] }) w2:=by
   simp only[execOp,hoD,resolve,R,Deferred.ofValue,az,aD,aA];simp
  rw[S,Oper.upon_defer,hdD];simp only[Act.put];unfold wpList;simp only[Exit.then];have B:Inv fn.ntmps ι0 ⟨w,[{ target:=.fn (.func M) I,args:=#[] }]⟩ G s2 { a2 with defers:={ target:=.fn (.func M) I,args:=#[] }::a2.defers } w2:=
   ⟨d.size,by rw[d.defers],d.tmps,d.mem,d.ext,d.new,d.fr,d.low,d.fz,d.gl⟩
  subst hcB;refine uJ ?_ (pV hE acB _ _ z hLB o G ⟨w2,[{ target:=.fn (.func M) I,args:=#[] }]⟩ G _ w2 (B.inner B.defers));rintro e C w' ⟨ex,s',j,A,i,n⟩;split at n
  case h_2=>cases n
  rename_i W;simp only[aB,js]at W;obtain⟨p,hro2⟩:=W;obtain⟨hext,o1,o2,o3,o4⟩:=B.outer rfl i p hro2;have hI4:Inv fn.ntmps ι0 ⟨w,[{ target:=.fn (.func M) I,args:=#[] }]⟩ j { s' with lo:=s2.lo,rb:=s2.rb } C w':=
   ⟨i.size,i.defers,i.tmps,i.mem,o1,o2,by show Fr (roI ι0 s'.ro) w w';rw[p];exact o3,d.low,λb q Z hq=>by have:=o4 b q Z hq;simp only;omega,by show GL (roI ι0 s'.ro) w;rw[p];exact B.gl⟩
  have hcv:=VRs.mono hext _ _ hv2;have k:∀(v:V) (x:Value) (u u':FrameMode),VR j v x->u≠.run->(settle u'=.returning)->
    ((u=.returning/\u'=.returning/\x=.nilIface)\/∃y,u=.panicking [{ v:=y,recovered:=false }]/\u'=.panicking [{ v:=y,recovered:=true }]/\x=y)->
    Ax P EC LC m.ntmps F tr cap v { s' with lo:=s2.lo,rb:=s2.rb } (λs=>finK P fn.results.toList K .ret s)=some z->
    Leaves P fn C.tmps (λe w'=>∃(pan:Bool) (u:V) (s:St) (ι:Inj),K pan u s=some z/\(∀b q,ι0 b=some q->ι b=some q\/s.rb<=b)/\(∀b q,ι b=some (some q)->(∃T,ι0 b=some (some T)/\T.r=q.r)\/w.heap.size<=q.r)/\
     WR ι s.H s.nb w'/\(∀b q,ι b=some (some q)->q.fz=true->b<s.ro)/\Fr (roI ι0 s.ro) w w'/\RetR ι { val:=u,pan:=pan } e) C.defers u w':=by
   intro v x u u' hvx hur X hu ha;rw[i.defers];refine leaves_cons hur (f:=M) (args:=I.toList.toArray) ?_ ?_
   ·have:=hEn I w';simpa[invoke]using this
   ·refine(KN hEC hfC hbC hoR hgR hdR Y hcC hLC ha hI4 hcv hvx hu).mono ?_;rintro e u'' w'' ⟨rfl,y,s3,ι3,rfl,h4,h5,h6⟩;obtain⟨v,g1,O⟩:=fin s3 ι3 C w'' h5 h4;simp only[X];exact⟨v,g1,O⟩
  cases ex with
  | normal=>simp only[ExR]at A;subst A;exact k .ni .nilIface .returning .returning (by simp[VR]) (by simp) rfl (.inl ⟨rfl,rfl,rfl⟩) n
  | ret=>simp only[ExR]at A;subst A;exact k .ni .nilIface .returning .returning (by simp[VR]) (by simp) rfl (.inl ⟨rfl,rfl,rfl⟩) n
  | exit id=>cases n
  | pan v=>
   obtain⟨x,rfl,hx⟩:=A;exact k v x (.panicking [{ v:=x,recovered:=false }]) (.panicking [{ v:=x,recovered:=true }]) hx (by simp) (by simp[settle]) (.inr ⟨x,rfl,rfl,rfl⟩) n
 ·rintro ex s ι e a w1 hne A i n;cases ex with
  | normal=>exact absurd rfl hne
  | exit id=>simp[finK]at n
  | ret=>
   simp only[ExR]at A;subst A;obtain⟨v,g1,O⟩:=fin s ι a w1 i n;show Leaves P fn a.tmps _ a.defers .returning w1;rw[i.defers];exact⟨v,g1,O⟩
  | pan v=>
   obtain⟨x,rfl,hx⟩:=A;show Leaves P fn a.tmps _ a.defers (.panicking _) w1;rw[i.defers];exact⟨true,v,s,ι,n,i.ext,i.new,i.mem,i.fz,i.fr,rfl,x,rfl,hx⟩
def qM:Nat->AC->List AC
 | n+1,.seq a b=>a::qM n b
 | _,_=>[]
def kM:Nat->AC->AC
 | n+1,.seq _ b=>kM n b
 | _,c=>c
def vv:∀(n:Nat) (c:AC),GG (qM n c) (kM n c).code=c.code
 | 0,c=>by simp[qM,kM,GG]
 | n+1,.seq a b=>by simp[qM,kM,GG,vv n b,AC.code]
 | n+1,.skip | n+1,.ret | n+1,.exit _ | n+1,.cond _ _ _ | n+1,.block _ _ | n+1,.reg _ _ | n+1,.draw _ _ | n+1,.sub _ _ | n+1,.loop _ | n+1,.scope _ | n+1,.label _ | n+1,.bad _=>by
  simp[qM,kM,GG]
def R9:AC->List Oper
 | .seq (.reg _ l) _=>l
 | _=>[]
def getO(l:List Oper)(i:Nat):Oper:=l.getD i default
def wI{n:Nat}{L:List Sub}:∀(k:Nat) (c:AC),jW P n L c->(∀x∈qM k c,jW P n L x)/\jW P n L (kM k c)
 | 0,c,h=>⟨by simp[qM],by simpa[kM]using h⟩
 | k+1,.seq a b,h=>by
  simp only[jW]at h;have:=wI k b h.2;exact⟨λx hx=>by
   simp only[qM,cb]at hx;rcases hx with rfl | hx
   ·exact h.1
   ·exact this.1 x hx,by simpa[kM]using this.2⟩
 | k+1,.skip,h | k+1,.ret,h | k+1,.exit _,h | k+1,.cond _ _ _,h | k+1,.block _ _,h | k+1,.reg _ _,h | k+1,.draw _ _,h | k+1,.sub _ _,h | k+1,.loop _,h | k+1,.scope _,h | k+1,.label _,h | k+1,.bad _,h=>by
  exact⟨by simp[qM],by simpa[kM]using h⟩
def LQ{α:Type}{E:List Ent}(I:∀x∈E,fC P x){L:List Sub}{f:Nat}{fn:Func}{c:Code}{ac:AC}{k:Nat}{o1 oD:Oper}{g:Operand}{gid idD:Nat}{acB:AC}(F:P.funcs[f]?=some fn)
  (D:fn.body=some c) (p:ac.code=c) (d:kM k ac=.seq (.reg idD [o1,oD]) acB) (H:jW P fn.ntmps L ac) (l:o1.guard=none) (r:oD.guard=none)
  (s:oD.op=.defer ⟨.value g,#[],#[]⟩) (y:oD.dst=none)
  {EC:List Ent} (m:∀x∈EC,fC P x) {C:List Sub} {b:Func} {B:Code} {a:AC} {idR:Nat} {oR:Oper} {tr:Nat} (v:P.funcs[gid]?=some b)
  (t:b.body=some B) (u:a.code=B) (e:kM 0 a=.seq (.reg idR [oR]) (kM 1 a)) (o:oR.op=.call ⟨.builtin .recover,#[],#[]⟩) (w:oR.guard=none) (q:oR.dst=some tr) (i:b.results=#[])
  (A:jW P b.ntmps C a) (j:lB P gid)
  {args:List V} {H0:List (Nat×Blk)} {nb0 ro rb:Nat} {K:Bool->V->St->Option α} {z:α} (G:Nat.ble args.length fn.ntmps=true)
  (h:VM P E L fn.ntmps (qM k ac) o1 g gid acB EC C b.ntmps (kM 1 a) tr fn.results.toList K ⟨tL args 0,H0,nb0,nb0,ro,rb⟩=some z):BP P f args H0 nb0 ro K z:=by
 have hs:=wI k ac H;have n:jW P fn.ntmps L acB:=by
  have:=hs.2;rw[d]at this;simp only[jW]at this;exact this.2
 refine Qn I F D rfl (As:=qM k ac) (o1:=o1) (oD:=oD) (idD:=idD) (acB:=acB) ?_ hs.1 n l r s y m v (idR:=idR) (oR:=oR) (crest:=(kM 1 a).code) ?_ o w q i rfl (wI 1 a A).2 j G h
 ·rw[<-p,<-vv k ac,d];rfl
 ·rw[t,<-u,<-vv 0 a,e];rfl
end Go.Abs
