
/- Functions that defer a closure: what they come to.
   Conditions: none; generic over the program. -/
import Derived.Test.YthemneooekobkaaGreatDoorAbsP
import Derived.Recover
set_option linter.unusedSimpArgs false
set_option linter.unusedVariables false
namespace Go.Abs
variable {P:Program}
def runL {α:Type} (P:Program) (E:List Ent) (L:List Sub) (n:Nat) (k:Ex->St->Option α):List AC->St->Option α
 | [],s=>k .normal s
 | a::l,s=>run P E L n a s λex s=>match ex with
  | .normal=>runL P E L n k l s
  | .exit id=>k (.exit id) s
  | .ret=>k .ret s
  | .pan v=>k (.pan v) s
def xm {α:Type} (P:Program) (E:List Ent) (L:List Sub) (b:Nat) (c:AC) (tr:Nat) (cap:List V) (v:V) (s:St) (k:St->Option α):Option α:=
 match Nat.blt tr b&&(Nat.ble cap.length b&&Nat.ble cap.length tr) with
 | true=>run P E L b c ⟨(tr,some v)::qU cap 0,s.H,s.nb,s.nb,s.ro,s.nb⟩ λex a=>match Nat.beq a.ro s.ro&&Nat.beq a.rb s.nb with
  | true=>match ex with
   | .normal=>k { s with H:=a.H,nb:=a.nb }
   | .ret=>k { s with H:=a.H,nb:=a.nb }
   | .exit _=>none
   | .pan _=>none
  | false=>none
 | false=>none
def OT {α:Type} (P:Program) (E:List Ent) (L:List Sub) (n:Nat) (As:List AC) (o1:Oper) (g:Operand) (gid:Nat) (acB:AC) (EC:List Ent) (d:List Sub) (e:Nat) (a:AC) (tr:Nat)
  (b:List ResultVar) (K:Bool->V->St->Option α) (s:St):Option α:=
 runL P E L n (λex s=>match ex with
  | .normal=>HD P E n s.nb o1 s (λs=>match opd s.T g with
   | some (.fn f cap)=>match Nat.beq f gid&&Nat.blt f 1000000 with
    | true=>run P E L n acB { s with lo:=s.nb,rb:=s.nb } λex c=>match Nat.beq c.ro s.ro&&Nat.beq c.rb s.nb with
     | true=>match ex with
      | .normal=>xm P EC d e a tr cap .ni { c with lo:=s.lo,rb:=s.rb } λs=>finK P b K .ret s
      | .ret=>xm P EC d e a tr cap .ni { c with lo:=s.lo,rb:=s.rb } λs=>finK P b K .ret s
      | .pan v=>xm P EC d e a tr cap v { c with lo:=s.lo,rb:=s.rb } λs=>finK P b K .ret s
      | .exit _=>none
     | false=>none
    | false=>none
   | _=>none) (λ_ _=>none)
  | .exit id=>finK P b K (.exit id) s
  | .ret=>finK P b K .ret s
  | .pan v=>finK P b K (.pan v) s) As s
def B9:List AC->Code->Code
 | [],c=>c
 | a::l,c=>.seq a.code (B9 l c)
theorem G8 {α:Type} {E:List Ent} (q:∀x∈E,ek P x) {L:List Sub} {n:Nat} {k:Ex->St->Option α} {z:α} {c:Code} {ι0:Inj} {w0:Base} {Q:Exit->Act->World->Prop}
  (p:∀s ι a w,Inv n ι0 w0 ι s a w->k .normal s=some z->c.wp P Q a w)
  (j:∀ex s ι e a w,ex≠.normal->ExR ι ex e->Inv n ι0 w0 ι s a w->k ex s=some z->Q e a w):∀(As:List AC) (s:St) (ι:Inj) (a:Act) (w:World),(∀x∈As,iW P n L x)->
   Inv n ι0 w0 ι s a w->runL P E L n k As s=some z->(B9 As c).wp P Q a w
 | [],s,ι,a,w,_,o,h=>p s ι a w o h
 | x::l,s,ι,a,w,hs,o,h=>by
  simp only [runL] at h;refine wp_seq (wp_mono (mL q x s _ z (hs x (by simp)) h ι0 w0 ι a w o) ?_);rintro e i w' ⟨ex,m,b,d,f,g⟩;cases ex with
  | normal=>simp only [ExR] at d;subst d;exact G8 q p j l m b i w' (λy hy=>hs y (gP _ hy)) f g
  | exit id=>simp only [ExR] at d;subst d;exact j (.exit id) m b _ i w' (by simp) rfl f g
  | ret=>simp only [ExR] at d;subst d;exact j .ret m b _ i w' (by simp) rfl f g
  | pan v=>obtain ⟨y,rfl,hx⟩:=d;exact j (.pan v) m b _ i w' (by simp) ⟨y,rfl,hx⟩ f g
theorem Inv.inner {n:Nat} {ι0 ι:Inj} {w0:Base} {s:St} {a:Act} {w:World} {D:List Deferred} (A:Inv n ι0 w0 ι s a w) (E:a.defers=D):Inv n ι ⟨w,D⟩ ι { s with lo:=s.nb,rb:=s.nb } a w:=
 ⟨A.size,E,A.tmps,A.mem,λ_ _ h=>.inl h,λ_ q h=>.inl ⟨q,h,rfl⟩,Fr.refl _ _,λb r h=>A.mem.low b r h,A.fz,A.glHere λ_ _ C=>⟨nr C,JQ C⟩⟩
theorem Inv.outer {n n':Nat} {ι0 ι C:Inj} {w0 Z:Base} {s Q:St} {a a':Act} {w w':World} (M:Inv n ι0 w0 ι s a w) (hw:Z.w=w) (E:Inv n' ι Z C Q a' w') (X:Q.ro=s.ro) (hrb:Q.rb=s.nb):
  (∀b q,ι b=some q->C b=some q)/\(∀b q,ι0 b=some q->C b=some q\/s.rb<=b)/\(∀b q,C b=some (some q)->(∃J,ι0 b=some (some J)/\J.r=q.r)\/w0.w.heap.size<=q.r)/\Fr (roI ι0 s.ro) w0.w w'/\
   (∀b q,C b=some (some q)->q.fz=true->b<s.ro):=by
 subst hw;have F:∀b q,ι b=some q->C b=some q:=by
  intro b q A;rcases E.ext b q A with h | h
  ·exact h
  ·have:=M.mem.low b q A;omega
 refine ⟨F,λb q A=>(M.ext b q A).imp (F b q) id,λb q A=>?_,M.fr.trans (λb q A=>?_) E.fr,λb q A hq=>by have:=E.fz b q A hq;omega⟩
 ·rcases E.new b q A with ⟨J,U,Y⟩ | h
  ·rw [<-Y];exact M.new b J U
  ·exact .inr (o6 M.fr.size h)
 ·have W:=nr A;have O:s.ro<=b:=by
   rw [X] at A;unfold roI at A;cases G:Nat.blt b s.ro with
   | true=>simp [G] at A
   | false=>
    rcases aH b s.ro with h | h
    ·rw [show Nat.blt b s.ro=true from cU h] at G;cases G
    ·exact h
  exact (M.new b q W).imp (λ⟨J,h,Y⟩=>⟨J,Ac h O,Y⟩) id
theorem G3 {α:Type} {E:List Ent} (hE:∀x∈E,ek P x) {L:List Sub} {g:Nat} {fn:Func} {m:AC} {idR:Nat} {oR:Oper} {tr:Nat} {crest:Code} (hf:P.funcs[g]?=some fn)
  (hb:fn.body=some (.seq (.region idR #[oR] false) crest)) (hoR:oR.op=.call ⟨.builtin .recover,#[],#[]⟩) (hgR:oR.guard=none) (hdR:oR.dst=some tr) (R:fn.results=#[]) (hc:m.code=crest)
  (hL:iW P fn.ntmps L m) {cap:List V} {v:V} {s:St} {k:St->Option α} {z:α} (h:xm P E L fn.ntmps m tr cap v s k=some z)
  {n:Nat} {ι0 ι:Inj} {w0:Base} {a:Act} {w:World} (i:Inv n ι0 w0 ι s a w) {j:List Value} (B:VRs ι cap j) {x:Value} (hx:VR ι v x) {u p:FrameMode}
  (hu:(u=.returning/\p=.returning/\x=.nilIface)\/∃y,u=.panicking [{ v:=y,recovered:=false }]/\p=.panicking [{ v:=y,recovered:=true }]/\x=y):
  CallsD P g j.toArray u w λe C w'=>C=p/\∃(y:Value) (D:St) (M:Inj),e=.returned y/\k D=some z/\Inv n ι0 w0 M D a w'/\D.T=s.T:=by
 unfold xm at h;split at h
 case h_2=>cases h
 rename_i f;simp only [ay] at f;have htr:tr<fn.ntmps:=aD f.1;have hcl:cap.length<=fn.ntmps:=aD f.2.1;have hct:cap.length<=tr:=aD f.2.2;have hlen:j.length=cap.length:=B.length;refine callsD_of_wpS hf hb λd W K=>?_;have S:∀a:Act,(execOp a.eval oR).run P w=.ok .recover w:=by
  intro a;simp [execOp,hoR,resolve,invoke,builtin]
 have o:∀G:List Frame,G={ d with mode:=p }::W->
   crest.wpS P (bodyPostS P fn d W λe C w'=>C=p/\∃(y:Value) (D:St) (M:Inj),e=.returned y/\k D=some z/\Inv n ι0 w0 M D a w'/\D.T=s.T)
    (({ tmps:=j.toArray++Array.replicate (fn.ntmps - j.toArray.size) undef,defers:=[] }:Act).put oR.dst x) G w:=by
  intro G hfs;have hI2:Inv fn.ntmps ι ⟨w,[]⟩ ι ⟨(tr,some v)::qU cap 0,s.H,s.nb,s.nb,s.ro,s.nb⟩ (({ tmps:=j.toArray++Array.replicate (fn.ntmps - j.toArray.size) undef,defers:=[] }:Act).put oR.dst x) w:=by
   refine ⟨by rw [lD];simp;omega,by rw [iy],?_,i.mem,λ_ _ h=>.inl h,λ_ q h=>.inl ⟨q,h,rfl⟩,Fr.refl _ _,λb r h=>i.mem.low b r h,i.fz,i.glHere λ_ _ hb=>⟨nr hb,JQ hb⟩⟩;rw [hdR];refine TR.put (λt u Z=>?_) (by simp;omega) (λu hu=>by cases hu;exact hx);rw [pL,ad (qT _)] at Z;simp only [vQ] at Z;cases hl:cap[t]? with
   | none=>simp [hl] at Z
   | some u=>
    simp only [hl,ee,am] at Z;subst Z;obtain ⟨x,Q,O⟩:=B.get hl;have h1':j.toArray[t]?=some x:=by simpa using Q
    have hlt:t<j.toArray.size:=by
     rcases aH t j.toArray.size with h' | h'
     ·exact h'
     ·rw [tz h'] at h1';cases h1'
    exact ⟨x,by rw [OJ hlt];exact h1',O⟩
  subst hc hfs;refine wpS_of_wp (rA ?_ (mL hE m _ _ z hL h ι ⟨w,[]⟩ ι _ w hI2));rintro e a' w' ⟨ex,s2,J,Q,O,N⟩;split at N
  case h_2=>cases N
  rename_i Y;simp only [ay,io] at Y;obtain ⟨U,hro2⟩:=Y;obtain ⟨X,o1,o2,o3,o4⟩:=i.outer rfl O U hro2;have A:Inv n ι0 w0 J { s with H:=s2.H,nb:=s2.nb } a w':=⟨i.size,i.defers,i.tmps.mono X,O.mem,o1,o2,o3,i.low,o4,i.gl⟩;have c:(results fn a'.tmps).run P w'=.ok (.tuple #[]) w':=by
   rw [xB,R];simp [az]
  cases ex with
  | normal=>simp only [ExR] at Q;subst Q;exact ⟨O.defers,p,rfl,_,c,rfl,_,_,J,rfl,N,A,rfl⟩
  | ret=>simp only [ExR] at Q;subst Q;exact ⟨O.defers,p,rfl,_,c,rfl,_,_,J,rfl,N,A,rfl⟩
  | exit id=>cases N
  | pan v=>cases N
 refine wpS_seq (wpS_region ?_);show wpOpsS P #[oR] _ [0] _ _ w;simp only [wpOpsS];have h0:(#[oR]:Array Oper)[0]?=some oR:=rfl;rw [h0];simp only;have hw:∀y,Region.wanted oR y=true:=λy=>by simp [Region.wanted,hgR]
 rw [hw];simp only [aY,S];rcases hu with ⟨l,F,I⟩ | ⟨y,l,F,I⟩
 ·subst I;have:recoverD (d::W)=none:=by simp [recoverD,K,l]
  rw [this];exact o _ (by rw [F,<-l,<-K])
 ·subst I;have:recoverD (d::W)=some (x,{ d with mode:=p }::W):=by simp [recoverD,K,l,F]
  rw [this];exact o _ rfl
theorem JZ {α:Type} {E:List Ent} (hE:∀x∈E,ek P x) {L:List Sub} {f:Nat} {fn:Func} {c:Code} {As:List AC} {o1 oD:Oper} {g:Operand} {gid idD:Nat} {acB:AC} {cB:Code} (hf:P.funcs[f]?=some fn)
  (hb:fn.body=some c) (hcB:acB.code=cB) (hc:B9 As (.seq (.region idD #[o1,oD] false) cB)=c) (hLA:∀x∈As,iW P fn.ntmps L x) (hLB:iW P fn.ntmps L acB) (hg1:o1.guard=none) (hgD:oD.guard=none)
  (hoD:oD.op=.defer ⟨.value g,#[],#[]⟩) (hdD:oD.dst=none)
  {EC:List Ent} (hEC:∀x∈EC,ek P x) {LC:List Sub} {m:Func} {F:AC} {idR:Nat} {oR:Oper} {tr:Nat} {crest:Code} (hfC:P.funcs[gid]?=some m)
  (hbC:m.body=some (.seq (.region idR #[oR] false) crest)) (hoR:oR.op=.call ⟨.builtin .recover,#[],#[]⟩) (hgR:oR.guard=none) (hdR:oR.dst=some tr) (hres:m.results=#[]) (hcC:F.code=crest)
  (hLC:iW P m.ntmps LC F) (hEn:jD P gid)
  {args:List V} {H0:List (Nat×Blk)} {nb0 ro rb:Nat} {K:Bool->V->St->Option α} {z:α} (hn:Nat.ble args.length fn.ntmps=true)
  (h:OT P E L fn.ntmps As o1 g gid acB EC LC m.ntmps F tr fn.results.toList K ⟨qU args 0,H0,nb0,nb0,ro,rb⟩=some z):za P f args H0 nb0 ro K z:=by
 intro ι0 w N hW hfz hgl hx;have hlen:N.size=args.length:=by simpa using hx.length
 have hn:=aD hn;refine calls_of_wp_defers hf hb ?_;rw [<-hc];have hI:Inv fn.ntmps ι0 ⟨w,[]⟩ ι0 ⟨qU args 0,H0,nb0,nb0,ro,rb⟩ { tmps:=N++Array.replicate (fn.ntmps - N.size) undef,defers:=[] } w:=by
  refine ⟨by simp;omega,rfl,λt v Z=>?_,hW,λ_ _ h=>.inl h,λ_ q h=>.inl ⟨q,h,rfl⟩,Fr.refl _ _,λb r h=>hW.low b r h,hfz,hgl⟩;rw [pL,ad (qT _)] at Z;simp only [vQ] at Z;cases hl:args[t]? with
  | none=>simp [hl] at Z
  | some u=>
   simp only [hl,ee,am] at Z;subst Z;obtain ⟨x,B,i⟩:=hx.get hl;have h1':N[t]?=some x:=by simpa using B
   have hlt:t<N.size:=by
    rcases aH t N.size with h' | h'
    ·exact h'
    ·rw [tz h'] at h1';cases h1'
   exact ⟨x,by rw [OJ hlt];exact h1',i⟩
 have S:∀{D:List Deferred} (A:St) (k:Inj) (C:Act) (w':World),Inv fn.ntmps ι0 ⟨w,D⟩ k A C w'->finK P fn.results.toList K .ret A=some z->
   ∃v,(results fn C.tmps).run P w'=.ok v w'/\∃(pan:Bool) (u:V) (s:St) (ι:Inj),K pan u s=some z/\(∀b q,ι0 b=some q->ι b=some q\/s.rb<=b)/\(∀b q,ι b=some (some q)->(∃O,ι0 b=some (some O)/\O.r=q.r)\/w.heap.size<=q.r)/\
   WR ι s.H s.nb w'/\(∀b q,ι b=some (some q)->q.fz=true->b<s.ro)/\Fr (roI ι0 s.ro) w w'/\RetR ι { val:=u,pan:=pan } (.returned v):=by
  intro D A k C w' i n;simp only [finK] at n;obtain ⟨v,x,g1,W,g3⟩:=wH (fn:=fn) (c:=λv=>K false v A) i n;exact ⟨x,g3,false,v,A,k,g1,i.ext,i.new,i.mem,i.fz,i.fr,rfl,W⟩
 refine G8 hE ?_ ?_ As _ ι0 _ w hLA hI h
 ·
  intro s ι a w1 hI1 hk;simp only at hk;refine wp_seq (wp_region_lit (l:=[o1,oD]) ?_);unfold wpList;have hw1:∀y,Region.wanted o1 y=true:=λy=>by simp [Region.wanted,hg1]
  have hwD:∀y,Region.wanted oD y=true:=λy=>by simp [Region.wanted,hgD]
  rw [hw1];simp only [aY];refine .inl (yJ hE hI1 (λb hb=>hI1.fresh b hb) (aW _) hk (λs2 J a2 R o d=>?_) (λv A k x C w' hk=>by cases hk));split at o
  case h_2=>cases o
  rename_i M cap hgo;split at o
  case h_2=>cases o
  rename_i hff;simp only [ay,io] at hff;obtain ⟨hff1,Q⟩:=hff;subst hff1;obtain ⟨I,T,hv2⟩:=M3 d.tmps hgo;rw [BS Q] at T;unfold wpList;rw [hwD];simp only [aY];refine .inl ?_;unfold Oper.wp;have U:(execOp a2.eval oD).run P R=.ok (.defer { target:=.fn (.func M) I,args:=#[] }) R:=by
   simp only [execOp,hoD,resolve,T,Deferred.ofValue,av,az,ax];simp
  rw [U,Oper.upon_defer,hdD];simp only [Act.put];unfold wpList;simp only [Exit.then];have G:Inv fn.ntmps ι0 ⟨w,[{ target:=.fn (.func M) I,args:=#[] }]⟩ J s2 { a2 with defers:={ target:=.fn (.func M) I,args:=#[] }::a2.defers } R:=
   ⟨d.size,by rw [d.defers],d.tmps,d.mem,d.ext,d.new,d.fr,d.low,d.fz,d.gl⟩
  subst hcB;refine rA ?_ (mL hE acB _ _ z hLB o J ⟨R,[{ target:=.fn (.func M) I,args:=#[] }]⟩ J _ R (G.inner G.defers));rintro e C w' ⟨ex,A,k,B,i,n⟩;split at n
  case h_2=>cases n
  rename_i Y;simp only [ay,io] at Y;obtain ⟨p,hro2⟩:=Y;obtain ⟨X,o1,o2,o3,o4⟩:=G.outer rfl i p hro2;have hI4:Inv fn.ntmps ι0 ⟨w,[{ target:=.fn (.func M) I,args:=#[] }]⟩ k { A with lo:=s2.lo,rb:=s2.rb } C w':=
   ⟨i.size,i.defers,i.tmps,i.mem,o1,o2,by show Fr (roI ι0 A.ro) w w';rw [p];exact o3,d.low,λb q hb hq=>by have:=o4 b q hb hq;simp only;omega,by show GL (roI ι0 A.ro) w;rw [p];exact G.gl⟩
  have hcv:=VRs.mono X _ _ hv2;have j:∀(v:V) (x:Value) (u u':FrameMode),VR k v x->u≠.run->(settle u'=.returning)->
    ((u=.returning/\u'=.returning/\x=.nilIface)\/∃y,u=.panicking [{ v:=y,recovered:=false }]/\u'=.panicking [{ v:=y,recovered:=true }]/\x=y)->
    xm P EC LC m.ntmps F tr cap v { A with lo:=s2.lo,rb:=s2.rb } (λs=>finK P fn.results.toList K .ret s)=some z->
    Leaves P fn C.tmps (λe w'=>∃(pan:Bool) (u:V) (s:St) (ι:Inj),K pan u s=some z/\(∀b q,ι0 b=some q->ι b=some q\/s.rb<=b)/\(∀b q,ι b=some (some q)->(∃O,ι0 b=some (some O)/\O.r=q.r)\/w.heap.size<=q.r)/\
     WR ι s.H s.nb w'/\(∀b q,ι b=some (some q)->q.fz=true->b<s.ro)/\Fr (roI ι0 s.ro) w w'/\RetR ι { val:=u,pan:=pan } e) C.defers u w':=by
   intro v x u u' hvx hur hset hu ha;rw [i.defers];refine leaves_cons hur (f:=M) (args:=I.toList.toArray) ?_ ?_
   ·have:=hEn I w';simpa [invoke] using this
   ·refine (G3 hEC hfC hbC hoR hgR hdR hres hcC hLC ha hI4 hcv hvx hu).mono ?_;rintro e u'' w'' ⟨rfl,y,s3,ι3,rfl,h4,h5,h6⟩;obtain ⟨v,g1,W⟩:=S s3 ι3 C w'' h5 h4;simp only [hset];exact ⟨v,g1,W⟩
  cases ex with
  | normal=>simp only [ExR] at B;subst B;exact j .ni .nilIface .returning .returning (by simp [VR]) (by simp) rfl (.inl ⟨rfl,rfl,rfl⟩) n
  | ret=>simp only [ExR] at B;subst B;exact j .ni .nilIface .returning .returning (by simp [VR]) (by simp) rfl (.inl ⟨rfl,rfl,rfl⟩) n
  | exit id=>cases n
  | pan v=>
   obtain ⟨x,rfl,hx⟩:=B;exact j v x (.panicking [{ v:=x,recovered:=false }]) (.panicking [{ v:=x,recovered:=true }]) hx (by simp) (by simp [settle]) (.inr ⟨x,rfl,rfl,rfl⟩) n
 ·rintro ex s ι e a w1 hne B i n;cases ex with
  | normal=>exact absurd rfl hne
  | exit id=>simp [finK] at n
  | ret=>
   simp only [ExR] at B;subst B;obtain ⟨v,g1,W⟩:=S s ι a w1 i n;show Leaves P fn a.tmps _ a.defers .returning w1;rw [i.defers];exact ⟨v,g1,W⟩
  | pan v=>
   obtain ⟨x,rfl,hx⟩:=B;show Leaves P fn a.tmps _ a.defers (.panicking _) w1;rw [i.defers];exact ⟨true,v,s,ι,n,i.ext,i.new,i.mem,i.fz,i.fr,rfl,x,rfl,hx⟩
def od:Nat->AC->List AC
 | n+1,.seq a b=>a::od n b
 | _,_=>[]
def jq:Nat->AC->AC
 | n+1,.seq _ b=>jq n b
 | _,c=>c
theorem sL:∀(n:Nat) (c:AC),B9 (od n c) (jq n c).code=c.code
 | 0,c=>by simp [od,jq,B9]
 | n+1,.seq a b=>by simp [od,jq,B9,sL n b,AC.code]
 | n+1,.skip | n+1,.ret | n+1,.exit _ | n+1,.cond _ _ _ | n+1,.block _ _ | n+1,.reg _ _ | n+1,.draw _ _ | n+1,.sub _ _ | n+1,.loop _ | n+1,.scope _ | n+1,.label _ | n+1,.bad _=>by
  simp [od,jq,B9]
def Nr:AC->List Oper
 | .seq (.reg _ l) _=>l
 | _=>[]
def getO (l:List Oper) (i:Nat):Oper:=l.getD i default
theorem uJ {n:Nat} {L:List Sub}:∀(k:Nat) (c:AC),iW P n L c->(∀x∈od k c,iW P n L x)/\iW P n L (jq k c)
 | 0,c,h=>⟨by simp [od],by simpa [jq] using h⟩
 | k+1,.seq a b,h=>by
  simp only [iW] at h;have:=uJ k b h.2;exact ⟨λx hx=>by
   simp only [od,cA] at hx;rcases hx with rfl | hx
   ·exact h.1
   ·exact this.1 x hx,by simpa [jq] using this.2⟩
 | k+1,.skip,h | k+1,.ret,h | k+1,.exit _,h | k+1,.cond _ _ _,h | k+1,.block _ _,h | k+1,.reg _ _,h | k+1,.draw _ _,h | k+1,.sub _ _,h | k+1,.loop _,h | k+1,.scope _,h | k+1,.label _,h | k+1,.bad _,h=>by
  exact ⟨by simp [od],by simpa [jq] using h⟩
theorem Ho {α:Type} {E:List Ent} (H:∀x∈E,ek P x) {L:List Sub} {f:Nat} {fn:Func} {c:Code} {ac:AC} {k:Nat} {o1 oD:Oper} {g:Operand} {gid idD:Nat} {acB:AC} (D:P.funcs[f]?=some fn)
  (G:fn.body=some c) (r:ac.code=c) (e:jq k ac=.seq (.reg idD [o1,oD]) acB) (I:iW P fn.ntmps L ac) (y:o1.guard=none) (s:oD.guard=none)
  (o:oD.op=.defer ⟨.value g,#[],#[]⟩) (u:oD.dst=none)
  {EC:List Ent} (v:∀x∈EC,ek P x) {B:List Sub} {b:Func} {C:Code} {a:AC} {idR:Nat} {oR:Oper} {tr:Nat} (p:P.funcs[gid]?=some b)
  (m:b.body=some C) (A:a.code=C) (d:jq 0 a=.seq (.reg idR [oR]) (jq 1 a)) (w:oR.op=.call ⟨.builtin .recover,#[],#[]⟩) (n:oR.guard=none) (j:oR.dst=some tr) (i:b.results=#[])
  (l:iW P b.ntmps B a) (q:jD P gid)
  {args:List V} {H0:List (Nat×Blk)} {nb0 ro rb:Nat} {K:Bool->V->St->Option α} {z:α} (F:Nat.ble args.length fn.ntmps=true)
  (h:OT P E L fn.ntmps (od k ac) o1 g gid acB EC B b.ntmps (jq 1 a) tr fn.results.toList K ⟨qU args 0,H0,nb0,nb0,ro,rb⟩=some z):za P f args H0 nb0 ro K z:=by
 have hs:=uJ k ac I;have t:iW P fn.ntmps L acB:=by
  have:=hs.2;rw [e] at this;simp only [iW] at this;exact this.2
 refine JZ H D G rfl (As:=od k ac) (o1:=o1) (oD:=oD) (idD:=idD) (acB:=acB) ?_ hs.1 t y s o u v p (idR:=idR) (oR:=oR) (crest:=(jq 1 a).code) ?_ w n j i rfl (uJ 1 a l).2 q F h
 ·rw [<-r,<-sL k ac,e];rfl
 ·rw [m,<-A,<-sL 0 a,d];rfl
end Go.Abs
