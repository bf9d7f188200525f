
import Derived.Test.YtadejcglcffgbacGreatDoorAbsP
import Derived.Recover
set_option linter.unusedSimpArgs false
set_option linter.unusedVariables false
set_option linter.defProp false
namespace Go.Abs
variable {P:Program}
def runL{α:Type}(P:Program)(E:List Ent)(L:List Sub)(n:Nat)(k:Ex->St->Option α):List AC->St->Option α
 | [],s=>k .normal s
 | a::l,s=>run P E L n a s λex s=>match ex with
  | .normal=>runL P E L n k l s
  | .exit id=>k (.exit id) s
  | .ret=>k .ret s
  | .pan v=>k (.pan v) s
def va{α:Type}(P:Program)(E:List Ent)(L:List Sub)(c:Nat)(b:AC)(tr:Nat)(cap:List V)(v:V)(s:St)(k:St->Option α):Option α:=
 match Nat.blt tr c&&(Nat.ble cap.length c&&Nat.ble cap.length tr)with
 | true=>run P E L c b ⟨(tr,some v)::nZ cap 0,s.H,s.nb,s.nb,s.ro,s.nb⟩ λex a=>match Nat.beq a.ro s.ro&&Nat.beq a.rb s.nb with
  | true=>match ex with
   | .normal=>k { s with H:=a.H,nb:=a.nb }
   | .ret=>k { s with H:=a.H,nb:=a.nb }
   | .exit _=>none
   | .pan _=>none
  | false=>none
 | false=>none
def KT{α:Type}(P:Program)(E:List Ent)(L:List Sub)(n:Nat)(As:List AC)(o1:Oper)(g:Operand)(gid:Nat)(acB:AC)(EC:List Ent)(e:List Sub)(d:Nat)(a:AC)(tr:Nat)
  (b:List ResultVar) (K:Bool->V->St->Option α) (s:St):Option α:=
 runL P E L n (λex s=>match ex with
  | .normal=>DL P E n s.nb o1 s (λs=>match opd s.T g with
   | some (.fn f cap)=>match Nat.beq f gid&&Nat.blt f 1000000 with
    | true=>run P E L n acB { s with lo:=s.nb,rb:=s.nb } λex c=>match Nat.beq c.ro s.ro&&Nat.beq c.rb s.nb with
     | true=>match ex with
      | .normal=>va P EC e d a tr cap .ni { c with lo:=s.lo,rb:=s.rb } λs=>finK P b K .ret s
      | .ret=>va P EC e d a tr cap .ni { c with lo:=s.lo,rb:=s.rb } λs=>finK P b K .ret s
      | .pan v=>va P EC e d a tr cap v { c with lo:=s.lo,rb:=s.rb } λs=>finK P b K .ret s
      | .exit _=>none
     | false=>none
    | false=>none
   | _=>none) (λ_ _=>none)
  | .exit id=>finK P b K (.exit id) s
  | .ret=>finK P b K .ret s
  | .pan v=>finK P b K (.pan v) s) As s
def zh:List AC->Code->Code
 | [],c=>c
 | a::l,c=>.seq a.code (zh l c)
def EJ {α:Type} {E:List Ent} (p:∀x∈E,cN P x) {L:List Sub} {n:Nat} {k:Ex->St->Option α} {z:α} {c:Code} {ι0:Inj} {w0:Base} {Q:Exit->Act->World->Prop}
  (o:∀s ι a w,Inv n ι0 w0 ι s a w->k .normal s=some z->c.wp P Q a w)
  (d:∀ex s ι e a w,ex≠.normal->ExR ι ex e->Inv n ι0 w0 ι s a w->k ex s=some z->Q e a w):∀(As:List AC) (s:St) (ι:Inj) (a:Act) (w:World),(∀x∈As,gi P n L x)->
   Inv n ι0 w0 ι s a w->runL P E L n k As s=some z->(zh As c).wp P Q a w
 | [],s,ι,a,w,_,j,h=>o s ι a w j h
 | x::l,s,ι,a,w,m,j,h=>by
  simp only [runL] at h;refine wp_seq (wp_mono (lc p x s _ z (m x (by simp)) h ι0 w0 ι a w j) ?_);rintro e g w' ⟨ex,f,b,h1,h2,i⟩;cases ex with
  | normal=>simp only [ExR] at h1;subst h1;exact EJ p o d l f b g w' (λy q=>m y (fE _ q)) h2 i
  | exit id=>simp only [ExR] at h1;subst h1;exact d (.exit id) f b _ g w' (by simp) rfl h2 i
  | ret=>simp only [ExR] at h1;subst h1;exact d .ret f b _ g w' (by simp) rfl h2 i
  | pan v=>obtain ⟨y,rfl,r⟩:=h1;exact d (.pan v) f b _ g w' (by simp) ⟨y,rfl,r⟩ h2 i
def Inv.inner{n:Nat}{ι0 ι:Inj}{w0:Base}{s:St}{a:Act}{w:World}{D:List Deferred}(A:Inv n ι0 w0 ι s a w)(E:a.defers=D):Inv n ι ⟨w,D⟩ ι { s with lo:=s.nb,rb:=s.nb } a w:=
 ⟨A.size,E,A.tmps,A.mem,λ_ _ h=>.inl h,λ_ q h=>.inl ⟨q,h,rfl⟩,Fr.refl _ _,λb r h=>A.mem.low b r h,A.fz,A.glHere λ_ _ C=>⟨lI C,Dj C⟩⟩
def Inv.outer {n n':Nat} {ι0 ι C:Inj} {w0 Y:Base} {s X:St} {a Z:Act} {w w':World} (K:Inv n ι0 w0 ι s a w) (hw:Y.w=w) (E:Inv n' ι Y C X Z w') (M:X.ro=s.ro) (hrb:X.rb=s.nb):
  (∀b q,ι b=some q->C b=some q)/\(∀b q,ι0 b=some q->C b=some q\/s.rb<=b)/\(∀b q,C b=some (some q)->(∃J,ι0 b=some (some J)/\J.r=q.r)\/w0.w.heap.size<=q.r)/\Fr (roI ι0 s.ro) w0.w w'/\
   (∀b q,C b=some (some q)->q.fz=true->b<s.ro):=by
 subst hw;have F:∀b q,ι b=some q->C b=some q:=by
  intro b q A;rcases E.ext b q A with h | h
  ·exact h
  ·have:=K.mem.low b q A;omega
 refine ⟨F,λb q A=>(K.ext b q A).imp (F b q) id,λb q A=>?_,K.fr.trans (λb q A=>?_) E.fr,λb q A hq=>by have:=E.fz b q A hq;omega⟩
 ·rcases E.new b q A with ⟨J,Q,O⟩ | h
  ·rw [<-O];exact K.new b J Q
  ·exact .inr (lT K.fr.size h)
 ·have U:=lI A;have W:s.ro<=b:=by
   rw [M] at A;unfold roI at A;cases G:Nat.blt b s.ro with
   | true=>simp [G] at A
   | false=>
    rcases aA b s.ro with h | h
    ·rw [show Nat.blt b s.ro=true from dA h] at G;cases G
    ·exact h
  exact (K.new b q U).imp (λ⟨J,h,O⟩=>⟨J,xR h W,O⟩) id
def Fh{α:Type}{E:List Ent}(hE:∀x∈E,cN P x){L:List Sub}{g:Nat}{fn:Func}{l:AC}{idR:Nat}{oR:Oper}{tr:Nat}{crest:Code}(hf:P.funcs[g]?=some fn)
  (Z:fn.body=some (.seq (.region idR #[oR] false) crest)) (hoR:oR.op=.call ⟨.builtin .recover,#[],#[]⟩) (hgR:oR.guard=none) (hdR:oR.dst=some tr) (U:fn.results=#[]) (hc:l.code=crest)
  (hL:gi P fn.ntmps L l) {cap:List V} {v:V} {s:St} {k:St->Option α} {z:α} (h:va P E L fn.ntmps l tr cap v s k=some z)
  {n:Nat} {ι0 ι:Inj} {w0:Base} {a:Act} {w:World} (j:Inv n ι0 w0 ι s a w) {i:List Value} (p:VRs ι cap i) {x:Value} (hx:VR ι v x) {u o:FrameMode}
  (hu:(u=.returning/\o=.returning/\x=.nilIface)\/∃y,u=.panicking [{ v:=y,recovered:=false }]/\o=.panicking [{ v:=y,recovered:=true }]/\x=y):
  CallsD P g i.toArray u w λe C w'=>C=o/\∃(y:Value) (J:St) (F:Inj),e=.returned y/\k J=some z/\Inv n ι0 w0 F J a w'/\J.T=s.T:=by
 unfold va at h;split at h
 case h_2=>cases h
 rename_i f;simp only[aw]at f;have htr:tr<fn.ntmps:=az f.1;have hcl:cap.length<=fn.ntmps:=az f.2.1;have hct:cap.length<=tr:=az f.2.2;have hlen:i.length=cap.length:=p.length;refine callsD_of_wpS hf Z λd X G=>?_;have S:∀a:Act,(execOp a.eval oR).run P w=.ok .recover w:=by
  intro a;simp[execOp,hoR,resolve,invoke,builtin]
 have B:∀I:List Frame,I={ d with mode:=o }::X->
   crest.wpS P (bodyPostS P fn d X λe C w'=>C=o/\∃(y:Value) (J:St) (F:Inj),e=.returned y/\k J=some z/\Inv n ι0 w0 F J a w'/\J.T=s.T)
    (({ tmps:=i.toArray++Array.replicate (fn.ntmps - i.toArray.size) undef,defers:=[] }:Act).put oR.dst x) I w:=by
  intro I hfs;have hI2:Inv fn.ntmps ι ⟨w,[]⟩ ι ⟨(tr,some v)::nZ cap 0,s.H,s.nb,s.nb,s.ro,s.nb⟩ (({ tmps:=i.toArray++Array.replicate (fn.ntmps - i.toArray.size) undef,defers:=[] }:Act).put oR.dst x) w:=by
   refine⟨by rw[jJ];simp;omega,by rw[fX],?_,j.mem,λ_ _ h=>.inl h,λ_ q h=>.inl ⟨q,h,rfl⟩,Fr.refl _ _,λb r h=>j.mem.low b r h,j.fz,j.glHere λ_ _ Z=>⟨lI Z,Dj Z⟩⟩;rw[hdR];refine TR.put (λt u O=>?_) (by simp;omega) (λu hu=>by cases hu;exact hx);rw[nu,ad (mT _)]at O;simp only[s9]at O;cases hl:cap[t]? with
   | none=>simp[hl]at O
   | some u=>
    simp only[hl,dB,af]at O;subst O;obtain⟨x,h1,h2⟩:=p.get hl;have h1':i.toArray[t]?=some x:=by simpa using h1
    have hlt:t<i.toArray.size:=by
     rcases aA t i.toArray.size with h' | h'
     ·exact h'
     ·rw[tj h']at h1';cases h1'
    exact⟨x,by rw[KP hlt];exact h1',h2⟩
  subst hc hfs;refine wpS_of_wp (pC ?_ (lc hE l _ _ z hL h ι ⟨w,[]⟩ ι _ w hI2));rintro e a' w' ⟨ex,s2,D,h1,h2,N⟩;split at N
  case h_2=>cases N
  rename_i Q;simp only[aw,fP]at Q;obtain⟨R,W⟩:=Q;obtain⟨Y,o1,o2,o3,o4⟩:=j.outer rfl h2 R W;have A:Inv n ι0 w0 D { s with H:=s2.H,nb:=s2.nb } a w':=⟨j.size,j.defers,j.tmps.mono Y,h2.mem,o1,o2,o3,j.low,o4,j.gl⟩;have c:(results fn a'.tmps).run P w'=.ok (.tuple #[]) w':=by
   rw[uO,U];simp[av]
  cases ex with
  | normal=>simp only[ExR]at h1;subst h1;exact⟨h2.defers,o,rfl,_,c,rfl,_,_,D,rfl,N,A,rfl⟩
  | ret=>simp only[ExR]at h1;subst h1;exact⟨h2.defers,o,rfl,_,c,rfl,_,_,D,rfl,N,A,rfl⟩
  | exit id=>cases N
  | pan v=>cases N
 refine wpS_seq (wpS_region ?_);show wpOpsS P #[oR] _ [0] _ _ w;simp only[wpOpsS];have h0:(#[oR]:Array Oper)[0]?=some oR:=rfl;rw[h0];simp only;have hw:∀y,Region.wanted oR y=true:=λy=>by simp[Region.wanted,hgR]
 rw[hw];simp only[be,S];rcases hu with⟨m,M,K⟩ | ⟨y,m,M,K⟩
 ·subst K;have:recoverD (d::X)=none:=by simp[recoverD,G,m]
  rw[this];exact B _ (by rw[M,<-m,<-G])
 ·subst K;have:recoverD (d::X)=some (x,{ d with mode:=o }::X):=by simp[recoverD,G,m,M]
  rw[this];exact B _ rfl
def If{α:Type}{E:List Ent}(hE:∀x∈E,cN P x){L:List Sub}{f:Nat}{fn:Func}{c:Code}{As:List AC}{o1 oD:Oper}{g:Operand}{gid idD:Nat}{acB:AC}{cB:Code}(hf:P.funcs[f]?=some fn)
  (Q:fn.body=some c) (hcB:acB.code=cB) (hc:zh As (.seq (.region idD #[o1,oD] false) cB)=c) (hLA:∀x∈As,gi P fn.ntmps L x) (hLB:gi P fn.ntmps L acB) (hg1:o1.guard=none) (hgD:oD.guard=none)
  (hoD:oD.op=.defer ⟨.value g,#[],#[]⟩) (hdD:oD.dst=none)
  {EC:List Ent} (hEC:∀x∈EC,cN P x) {LC:List Sub} {k:Func} {B:AC} {idR:Nat} {oR:Oper} {tr:Nat} {crest:Code} (hfC:P.funcs[gid]?=some k)
  (hbC:k.body=some (.seq (.region idR #[oR] false) crest)) (hoR:oR.op=.call ⟨.builtin .recover,#[],#[]⟩) (hgR:oR.guard=none) (hdR:oR.dst=some tr) (O:k.results=#[]) (hcC:B.code=crest)
  (hLC:gi P k.ntmps LC B) (hEn:gj P gid)
  {args:List V} {H0:List (Nat×Blk)} {nb0 ro rb:Nat} {K:Bool->V->St->Option α} {z:α} (hn:Nat.ble args.length fn.ntmps=true)
  (h:KT P E L fn.ntmps As o1 g gid acB EC LC k.ntmps B tr fn.results.toList K ⟨nZ args 0,H0,nb0,nb0,ro,rb⟩=some z):vZ P f args H0 nb0 ro K z:=by
 intro ι0 w J hW hfz hgl M;have hlen:J.size=args.length:=by simpa using M.length
 have hn:=az hn;refine calls_of_wp_defers hf Q ?_;rw[<-hc];have hI:Inv fn.ntmps ι0 ⟨w,[]⟩ ι0 ⟨nZ args 0,H0,nb0,nb0,ro,rb⟩ { tmps:=J++Array.replicate (fn.ntmps - J.size) undef,defers:=[] } w:=by
  refine⟨by simp;omega,rfl,λt v S=>?_,hW,λ_ _ h=>.inl h,λ_ q h=>.inl ⟨q,h,rfl⟩,Fr.refl _ _,λb r h=>hW.low b r h,hfz,hgl⟩;rw[nu,ad (mT _)]at S;simp only[s9]at S;cases hl:args[t]? with
  | none=>simp[hl]at S
  | some u=>
   simp only[hl,dB,af]at S;subst S;obtain⟨x,h1,h2⟩:=M.get hl;have h1':J[t]?=some x:=by simpa using h1
   have hlt:t<J.size:=by
    rcases aA t J.size with h' | h'
    ·exact h'
    ·rw[tj h']at h1';cases h1'
   exact⟨x,by rw[KP hlt];exact h1',h2⟩
 have fin:∀{D:List Deferred} (o:St) (i:Inj) (C:Act) (w':World),Inv fn.ntmps ι0 ⟨w,D⟩ i o C w'->finK P fn.results.toList K .ret o=some z->
   ∃v,(results fn C.tmps).run P w'=.ok v w'/\∃(pan:Bool) (u:V) (s:St) (ι:Inj),K pan u s=some z/\(∀b q,ι0 b=some q->ι b=some q\/s.rb<=b)/\(∀b q,ι b=some (some q)->(∃q',ι0 b=some (some q')/\q'.r=q.r)\/w.heap.size<=q.r)/\
   WR ι s.H s.nb w'/\(∀b q,ι b=some (some q)->q.fz=true->b<s.ro)/\Fr (roI ι0 s.ro) w w'/\RetR ι { val:=u,pan:=pan } (.returned v):=by
  intro D o i C w' h2 m;simp only[finK]at m;obtain⟨v,x,X,Z,g3⟩:=vb (fn:=fn) (c:=λv=>K false v o) h2 m;exact⟨x,g3,false,v,o,i,X,h2.ext,h2.new,h2.mem,h2.fz,h2.fr,rfl,Z⟩
 refine EJ hE ?_ ?_ As _ ι0 _ w hLA hI h
 ·
  intro s ι a w1 U hk;simp only at hk;refine wp_seq (wp_region_lit (l:=[o1,oD]) ?_);unfold wpList;have hw1:∀y,Region.wanted o1 y=true:=λy=>by simp[Region.wanted,hg1]
  have hwD:∀y,Region.wanted oD y=true:=λy=>by simp[Region.wanted,hgD]
  rw[hw1];simp only[be];refine .inl (vo hE U (λb Q=>U.fresh b Q) (aI _) hk (λs2 G a2 w2 p d=>?_) (λv o i x C w' hk=>by cases hk));split at p
  case h_2=>cases p
  rename_i I cap hgo;split at p
  case h_2=>cases p
  rename_i W;simp only[aw,fP]at W;obtain⟨Y,T⟩:=W;subst Y;obtain⟨F,hv1,hv2⟩:=IB d.tmps hgo;rw[y3 T]at hv1;unfold wpList;rw[hwD];simp only[be];refine .inl ?_;unfold Oper.wp;have R:(execOp a2.eval oD).run P w2=.ok (.defer { target:=.fn (.func I) F,args:=#[] }) w2:=by
   simp only[execOp,hoD,resolve,hv1,Deferred.ofValue,al,av,ar];simp
  rw[R,Oper.upon_defer,hdD];simp only[Act.put];unfold wpList;simp only[Exit.then];have A:Inv fn.ntmps ι0 ⟨w,[{ target:=.fn (.func I) F,args:=#[] }]⟩ G s2 { a2 with defers:={ target:=.fn (.func I) F,args:=#[] }::a2.defers } w2:=
   ⟨d.size,by rw[d.defers],d.tmps,d.mem,d.ext,d.new,d.fr,d.low,d.fz,d.gl⟩
  subst hcB;refine pC ?_ (lc hE acB _ _ z hLB p G ⟨w2,[{ target:=.fn (.func I) F,args:=#[] }]⟩ G _ w2 (A.inner A.defers));rintro e C w' ⟨ex,o,i,h1,h2,m⟩;split at m
  case h_2=>cases m
  rename_i hro;simp only[aw,fP]at hro;obtain⟨n,hro2⟩:=hro;obtain⟨hext,o1,o2,o3,o4⟩:=A.outer rfl h2 n hro2;have hI4:Inv fn.ntmps ι0 ⟨w,[{ target:=.fn (.func I) F,args:=#[] }]⟩ i { o with lo:=s2.lo,rb:=s2.rb } C w':=
   ⟨h2.size,h2.defers,h2.tmps,h2.mem,o1,o2,by show Fr (roI ι0 o.ro) w w';rw[n];exact o3,d.low,λb q Q hq=>by have:=o4 b q Q hq;simp only;omega,by show GL (roI ι0 o.ro) w;rw[n];exact A.gl⟩
  have hcv:=VRs.mono hext _ _ hv2;have j:∀(v:V) (x:Value) (u u':FrameMode),VR i v x->u≠.run->(settle u'=.returning)->
    ((u=.returning/\u'=.returning/\x=.nilIface)\/∃y,u=.panicking [{ v:=y,recovered:=false }]/\u'=.panicking [{ v:=y,recovered:=true }]/\x=y)->
    va P EC LC k.ntmps B tr cap v { o with lo:=s2.lo,rb:=s2.rb } (λs=>finK P fn.results.toList K .ret s)=some z->
    Leaves P fn C.tmps (λe w'=>∃(pan:Bool) (u:V) (s:St) (ι:Inj),K pan u s=some z/\(∀b q,ι0 b=some q->ι b=some q\/s.rb<=b)/\(∀b q,ι b=some (some q)->(∃q',ι0 b=some (some q')/\q'.r=q.r)\/w.heap.size<=q.r)/\
     WR ι s.H s.nb w'/\(∀b q,ι b=some (some q)->q.fz=true->b<s.ro)/\Fr (roI ι0 s.ro) w w'/\RetR ι { val:=u,pan:=pan } e) C.defers u w':=by
   intro v x u u' hvx hur N hu ha;rw[h2.defers];refine leaves_cons hur (f:=I) (args:=F.toList.toArray) ?_ ?_
   ·have:=hEn F w';simpa[invoke]using this
   ·refine(Fh hEC hfC hbC hoR hgR hdR O hcC hLC ha hI4 hcv hvx hu).mono ?_;rintro e u'' w'' ⟨rfl,y,s3,ι3,rfl,h4,h5,h6⟩;obtain⟨v,X,Z⟩:=fin s3 ι3 C w'' h5 h4;simp only[N];exact⟨v,X,Z⟩
  cases ex with
  | normal=>simp only[ExR]at h1;subst h1;exact j .ni .nilIface .returning .returning (by simp[VR]) (by simp) rfl (.inl ⟨rfl,rfl,rfl⟩) m
  | ret=>simp only[ExR]at h1;subst h1;exact j .ni .nilIface .returning .returning (by simp[VR]) (by simp) rfl (.inl ⟨rfl,rfl,rfl⟩) m
  | exit id=>cases m
  | pan v=>
   obtain⟨x,rfl,M⟩:=h1;exact j v x (.panicking [{ v:=x,recovered:=false }]) (.panicking [{ v:=x,recovered:=true }]) M (by simp) (by simp[settle]) (.inr ⟨x,rfl,rfl,rfl⟩) m
 ·rintro ex s ι e a w1 hne h1 h2 m;cases ex with
  | normal=>exact absurd rfl hne
  | exit id=>simp[finK]at m
  | ret=>
   simp only[ExR]at h1;subst h1;obtain⟨v,X,Z⟩:=fin s ι a w1 h2 m;show Leaves P fn a.tmps _ a.defers .returning w1;rw[h2.defers];exact⟨v,X,Z⟩
  | pan v=>
   obtain⟨x,rfl,M⟩:=h1;show Leaves P fn a.tmps _ a.defers (.panicking _) w1;rw[h2.defers];exact⟨true,v,s,ι,m,h2.ext,h2.new,h2.mem,h2.fz,h2.fr,rfl,x,rfl,M⟩
def l8:Nat->AC->List AC
 | n+1,.seq a b=>a::l8 n b
 | _,_=>[]
def hO:Nat->AC->AC
 | n+1,.seq _ b=>hO n b
 | _,c=>c
def pU:∀(n:Nat) (c:AC),zh (l8 n c) (hO n c).code=c.code
 | 0,c=>by simp[l8,hO,zh]
 | n+1,.seq a b=>by simp[l8,hO,zh,pU n b,AC.code]
 | n+1,.skip | n+1,.ret | n+1,.exit _ | n+1,.cond _ _ _ | n+1,.block _ _ | n+1,.reg _ _ | n+1,.draw _ _ | n+1,.sub _ _ | n+1,.loop _ | n+1,.scope _ | n+1,.label _ | n+1,.bad _=>by
  simp[l8,hO,zh]
def IC:AC->List Oper
 | .seq (.reg _ l) _=>l
 | _=>[]
def getO(l:List Oper)(i:Nat):Oper:=l.getD i default
def rW{n:Nat}{L:List Sub}:∀(k:Nat) (c:AC),gi P n L c->(∀x∈l8 k c,gi P n L x)/\gi P n L (hO k c)
 | 0,c,h=>⟨by simp[l8],by simpa[hO]using h⟩
 | k+1,.seq a b,h=>by
  simp only[gi]at h;have:=rW k b h.2;exact⟨λx d=>by
   simp only[l8,bv]at d;rcases d with rfl | d
   ·exact h.1
   ·exact this.1 x d,by simpa[hO]using this.2⟩
 | k+1,.skip,h | k+1,.ret,h | k+1,.exit _,h | k+1,.cond _ _ _,h | k+1,.block _ _,h | k+1,.reg _ _,h | k+1,.draw _ _,h | k+1,.sub _ _,h | k+1,.loop _,h | k+1,.scope _,h | k+1,.label _,h | k+1,.bad _,h=>by
  exact⟨by simp[l8],by simpa[hO]using h⟩
def EZ{α:Type}{E:List Ent}(J:∀x∈E,cN P x){L:List Sub}{f:Nat}{fn:Func}{c:Code}{ac:AC}{k:Nat}{o1 oD:Oper}{g:Operand}{gid idD:Nat}{acB:AC}(I:P.funcs[f]?=some fn)
  (F:fn.body=some c) (r:ac.code=c) (i:hO k ac=.seq (.reg idD [o1,oD]) acB) (G:gi P fn.ntmps L ac) (m:o1.guard=none) (A:oD.guard=none)
  (y:oD.op=.defer ⟨.value g,#[],#[]⟩) (v:oD.dst=none)
  {EC:List Ent} (o:∀x∈EC,cN P x) {B:List Sub} {b:Func} {D:Code} {a:AC} {idR:Nat} {oR:Oper} {tr:Nat} (p:P.funcs[gid]?=some b)
  (l:b.body=some D) (u:a.code=D) (d:hO 0 a=.seq (.reg idR [oR]) (hO 1 a)) (t:oR.op=.call ⟨.builtin .recover,#[],#[]⟩) (s:oR.guard=none) (n:oR.dst=some tr) (e:b.results=#[])
  (j:gi P b.ntmps B a) (q:gj P gid)
  {args:List V} {H0:List (Nat×Blk)} {nb0 ro rb:Nat} {K:Bool->V->St->Option α} {z:α} (H:Nat.ble args.length fn.ntmps=true)
  (h:KT P E L fn.ntmps (l8 k ac) o1 g gid acB EC B b.ntmps (hO 1 a) tr fn.results.toList K ⟨nZ args 0,H0,nb0,nb0,ro,rb⟩=some z):vZ P f args H0 nb0 ro K z:=by
 have C:=rW k ac G;have w:gi P fn.ntmps L acB:=by
  have:=C.2;rw[i]at this;simp only[gi]at this;exact this.2
 refine If J I F rfl (As:=l8 k ac) (o1:=o1) (oD:=oD) (idD:=idD) (acB:=acB) ?_ C.1 w m A y v o p (idR:=idR) (oR:=oR) (crest:=(hO 1 a).code) ?_ t s n e rfl (rW 1 a j).2 q H h
 ·rw[<-r,<-pU k ac,i];rfl
 ·rw[l,<-u,<-pU 0 a,d];rfl
end Go.Abs
