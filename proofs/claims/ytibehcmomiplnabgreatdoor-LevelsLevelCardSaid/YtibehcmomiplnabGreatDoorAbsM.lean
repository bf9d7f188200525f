
import Derived.Test.YtibehcmomiplnabGreatDoorAbsL
set_option linter.unusedSimpArgs false
set_option linter.unusedVariables false
set_option linter.defProp false
namespace Go.Abs
variable {P:Program}
def pJ{ρ ρ':Operand->Option V}:∀{l:List Operand},(∀x∈l,ρ' x=ρ x)->opds ρ' l=opds ρ l
 | [],_=>rfl
 | x::l,h=>by
  simp only[opds,h x (by simp),pJ λy hy=>h y (fV _ hy)]
def rX{ρ ρ':Operand->Option V}:∀{l:List (Nat×Operand)},(∀x∈l,ρ' x.2=ρ x.2)->sM ρ' l=sM ρ l
 | [],_=>rfl
 | (i,x)::l,h=>by
  have a:ρ' x=ρ x:=h (i,x) (by simp);simp only[sM,a,rX λy hy=>h y (fV _ hy)]
def xO{ρ ρ':Operand->Option V}{x:Option Operand}(h:∀y,x=some y->ρ' y=ρ y):tZ ρ' x=tZ ρ x:=by
 cases x with
 | none=>rfl
 | some y=>simp only[tZ,h y rfl]
def TQ{α:Type}{n len:Nat}{h:Option Int}{c:Nat->Option α}{z:α}(a:hiK n len h c=some z):∃m,c m=some z:=by
 unfold hiK at a;split at a
 ·exact⟨_,a⟩
 ·obtain⟨m,_,b⟩:=ax a;exact⟨m,b⟩
def S1{α:Type}{n:Nat}{h:Option Int}{c:Nat->Option α}{z:α}(a:loK n h c=some z):∃m,c m=some z:=by
 unfold loK at a;split at a
 ·exact⟨_,a⟩
 ·obtain⟨m,_,b⟩:=ax a;exact⟨m,b⟩
def IE{α:Type}{t:TypeId}{blk:Blk}{o:Nat}{v:V}{c:Blk->Option α}{z:α}(h:tW P t blk o v c=some z):∃b,c b=some z:=by
 have h':ob (tW P t blk o v some) c=some z:=(uA t blk o v some c).symm.trans h;obtain⟨b,_,a⟩:=ax h';exact⟨b,a⟩
def NR{H a:List (Nat×Blk)}{u:V}{m:Nat}{rd:List Nat}(h:slL H u=some (m,rd))(e:∀b∈rd,look a b=look H b):slL a u=some (m,rd):=by
 unfold slL at h ⊢;split at h
 ·rename_i c;split at h
  case h_2=>cases h
  rename_i tr l d;simp only[aw,bP]at h;obtain⟨rfl,rfl⟩:=h;simp only[e c (by simp),d]
 ·exact h
 ·cases h
def MP{ρ ρ':Operand->Option V}{H Q:List (Nat×Blk)}{f:Nat}{op:Op}{e:Eff}(h:effK P ρ H f op some=some e)(a:∀x∈op.operands.toList,ρ' x=ρ x)
  (B:∀b∈e.rd,look Q b=look H b):effK P ρ' Q f op some=some e:=by
 cases op with
 | load t x=>
  have hx:=a x (by simp[Op.operands]);simp only[effK,hx]at h ⊢;split at h
  ·rename_i b o hp;split at h
   ·rename_i blk g;have z:=h;rw[show(λv=>some ({ val:=some v,rd:=[b] }:Eff))=λv=>ob (some v) λv=>some ({ val:=some v,rd:=[b] }:Eff)from rfl,wm]at z;obtain⟨v,_,A⟩:=ax z;simp only[aw]at A;have F:=B b (by rw[<-A];simp);simp only[F,g,h]
   ·cases h
  ·rename_i zz b j o hp;split at h
   case h_2=>cases h
   rename_i tr l g;split at h
   case h_2=>cases h
   rename_i D;obtain⟨xr,K,z⟩:=ax h;have h'':=z;rw[show(λv=>some ({ val:=some v,rd:=[b] }:Eff))=λv=>ob (some v) λv=>some ({ val:=some v,rd:=[b] }:Eff)from rfl,wm]at z;obtain⟨v,_,A⟩:=ax z;simp only[aw]at A;have F:=B b (by rw[<-A];simp);simp only[F,g,D,K,oO,h'']
  ·cases h
 | makeSlice t x y=>simp only[effK,a x (by simp[Op.operands]),a y (by simp[Op.operands])]at h ⊢;exact h
 | store t x y=>
  have hx:=a x (by simp[Op.operands]);have hy:=a y (by simp[Op.operands]);simp only[effK,hx,hy]at h ⊢;split at h
  ·rename_i b o hp;obtain⟨v,E,h⟩:=ax h;split at h
   ·rename_i blk g;have z:=h;rw[show(λk=>some ({ val:=none,rd:=[b],wr:=some (b,k) }:Eff))=λk=>ob (some k) λk=>some ({ val:=none,rd:=[b],wr:=some (b,k) }:Eff)from rfl,uA]at z;obtain⟨v',_,A⟩:=ax z;simp only[aw]at A;have F:=B b (by rw[<-A];simp);simp only[E,oO,F,g,h]
   ·cases h
  ·rename_i zz b j o hp;obtain⟨v,E,z⟩:=ax h;split at z
   case h_2=>cases z
   rename_i tr l g;split at z
   case h_2=>cases z
   rename_i D;obtain⟨xr,K,J⟩:=ax z;have A:=J;obtain⟨k,I⟩:=IE J;split at I
   case h_2=>cases I
   obtain⟨x',_,O⟩:=ax I;simp only[aw]at O;have F:=B b (by rw[<-O];simp);simp only[E,oO,F,g,D,K,A]
  ·cases h
 | move x=>simp only[effK,a x (by simp[Op.operands])]at h ⊢;exact h
 | assign x=>simp only[effK,a x (by simp[Op.operands])]at h ⊢;exact h
 | pick c x y=>simp only[effK,a c (by simp[Op.operands]),a x (by simp[Op.operands]),a y (by simp[Op.operands])]at h ⊢;exact h
 | alloc t=>exact h
 | box t x=>simp only[effK,a x (by simp[Op.operands])]at h ⊢;exact h
 | build t Y=>
  have:=rX (ρ:=ρ) (ρ':=ρ') (l:=Y.toList) λx hx=>a x.2 (by simp only[Op.operands,eY];exact⟨x,hx,rfl⟩);simp only[effK,this]at h ⊢;exact h
 | buildSlice t n Y=>
  have:=rX (ρ:=ρ) (ρ':=ρ') (l:=Y.toList) λx hx=>a x.2 (by simp only[Op.operands,eY];exact⟨x,hx,rfl⟩);simp only[effK,this]at h ⊢;exact h
 | nilCheck x=>simp only[effK,a x (by simp[Op.operands])]at h ⊢;exact h
 | binOp o t x y yt=>
  simp only[effK,a x (by simp[Op.operands]),a y (by simp[Op.operands])]at h ⊢;obtain⟨u,N,h⟩:=ax h;obtain⟨v,E,h⟩:=ax h;rw[N,E];simp only[oO];split at h
  ·exact h
  ·split at h
   ·split at h
    case h_2=>cases h
    rename_i m rd T;obtain⟨U,h⟩:=eV h;have Z:=NR T λb g=>B b (by rw[<-bE h];exact g);rw[Z];simp only[U,ah];exact h
   ·exact h
 | unOp o t x=>simp only[effK,a x (by simp[Op.operands])]at h ⊢;exact h
 | convert s d x=>
  simp only[effK,a x (by simp[Op.operands])]at h ⊢;obtain⟨v,E,q⟩:=ax h;rw[E];simp only[oO];have key:∀b,e.rd=[b]->look Q b=look H b:=λb he=>B b (by rw[he];simp);cases v<;>try exact q
  ·rename_i b;split at q
   case h_2=>cases q
   split at q
   ·cases q
   ·simp only at q ⊢;split at q
    case h_2=>cases q
    split at q
    case h_2=>cases q
    split at q
    case h_2=>cases q
    rename_i g;have C:=q;simp only[aw]at C;rw[key b (by rw[<-C]),g];exact q
   ·split at q<;>cases q
   ·cases q
  ·rename_i zz b j n _;split at q
   case h_2=>cases q
   split at q
   ·cases q
   ·simp only at q ⊢;split at q
    case h_2=>cases q
    split at q
    case h_2=>cases q
    split at q
    case h_2=>cases q
    rename_i g;split at q
    case h_2=>cases q
    rename_i D;obtain⟨hc,C⟩:=eV q;simp only[aw]at C;rw[key b (by rw[<-C]),g];simp only[D];exact q
   ·split at q<;>cases q
   ·cases q
  ·rename_i b o m cap;split at q
   case h_2=>cases q
   split at q
   ·cases q
   ·simp only at q ⊢;split at q
    case h_2=>cases q
    split at q
    case h_2=>cases q
    split at q
    case h_2=>cases q
    rename_i g;obtain⟨hc,C⟩:=eV q;simp only[aw]at C;rw[key b (by rw[<-C]),g];exact q
   ·split at q<;>cases q
   ·cases q
 | next x str=>
  have hx:=a x (by simp[Op.operands]);simp only[effK,hx]at h ⊢;split at h
  case h_2=>cases h
  rename_i b hp;split at h
  case h_2=>cases h
  rename_i l pos g;have F:look Q b=look H b:=B b (by
   cases hc:Nat.blt pos l.length<;>rw[hc]at h<;>simp only[ah,af,aw]at h<;>rw[<-h]<;>simp)
  simp only[F,g];exact h
 | makeInterface t x=>simp only[effK,a x (by simp[Op.operands])]at h ⊢;exact h
 | makeFunc fn first cap=>
  have:=pJ (ρ:=ρ) (ρ':=ρ') (l:=cap.toList) λx hx=>a x (by simp only[Op.operands,AO,md];exact .inr hx);have A:=pJ (ρ:=ρ) (ρ':=ρ') (l:=first.toList) λx hx=>a x (by simp only[Op.operands,AO,md];exact .inl hx);simp only[effK,this,A]at h ⊢;exact h
 | slice t x lo hi mx=>
  have J:=a x (by simp[Op.operands]);have A:=xO (ρ:=ρ) (ρ':=ρ') (x:=lo) λy hy=>a y (by simp[Op.operands,hy]);have I:=xO (ρ:=ρ) (ρ':=ρ') (x:=hi) λy hy=>a y (by simp[Op.operands,hy]);simp only[effK,J,A,I]at h ⊢;cases mx with
  | some m=>
   simp only at h ⊢;have O:=a m (by simp[Op.operands]);cases lo with
   | some _=>exact h
   | none=>
   cases hi with
   | none=>exact h
   | some E=>
   have h5:=a E (by simp[Op.operands]);simp only[xN,J,O,h5]at h ⊢;obtain⟨u,N,w⟩:=ax h;simp only[N,oO];clear h;split at w
   case h_2=>cases w
   split at w
   case h_2=>cases w
   split at w
   case h_2=>cases w
   split at w
   ·rename_i b;split at w
    case h_2=>cases w
    rename_i tr l g;split at w
    case h_2=>cases w
    rename_i D;obtain⟨M,hM,R⟩:=ax w;obtain⟨L,hL,r⟩:=ax R;have S:=r;simp only[aw]at S;simp only[B b (by rw[<-S];simp),g,D,hM,hL,oO,r]
   ·exact w
   ·exact w
   ·cases w
  | none=>
  simp only at h ⊢;obtain⟨u,N,w⟩:=ax h;obtain⟨l,T,R⟩:=ax w;obtain⟨hh,X,r⟩:=ax R;simp only[N,T,X,oO];clear h w R;split at r
  ·exact r
  ·exact r
  ·split at r
   case h_2=>cases r
   cases u<;>try exact r
   case sl=>rename_i cap;cases cap<;>exact r
   rename_i b;simp only at r ⊢;split at r
   case h_2=>cases r
   rename_i tr m g;split at r
   case h_2=>cases r
   rename_i D;obtain⟨H1,S⟩:=TQ r;obtain⟨L1,q5⟩:=S1 S;simp only[aw]at q5;rw[B b (by rw[<-q5];simp),g];simp only[D];exact r
  ·cases r
 | makeMap t x=>exact h
 | insert t m x y=>
  simp only[effK,a m (by simp[Op.operands]),a x (by simp[Op.operands]),a y (by simp[Op.operands])]at h ⊢;split at h
  case h_2=>cases h
  rename_i b U;split at h
  case h_2=>cases h
  split at h
  case h_2=>cases h
  split at h
  case h_2=>cases h
  split at h
  case h_2=>cases h
  rename_i k1 l g;split at h
  case h_2=>cases h
  rename_i G;rw[B b (by rw[<-bE h];simp),g];simp only[G];exact h
 | lookup t m x ok=>
  simp only[effK,a m (by simp[Op.operands]),a x (by simp[Op.operands])]at h ⊢;split at h
  case h_2=>cases h
  rename_i b U;split at h
  case h_2=>cases h
  split at h
  case h_2=>cases h
  split at h
  case h_2=>cases h
  split at h
  case h_2=>cases h
  rename_i k1 l g;split at h
  case h_2=>cases h
  rename_i G;have W:e.rd=[b]:=by
   clear g;revert h;generalize l=l'
   induction l' with
   | nil=>intro h;cases h
   | cons p l ih=>
    intro h;simp only[mapK]at h;revert h;cases(_==p.1)with
    | true=>intro h;rw[<-bE h]
    | false=>exact ih
  rw[B b (by rw[W];simp),g];simp only[G];exact h
 | fieldAddr t x i=>simp only[effK,a x (by simp[Op.operands])]at h ⊢;exact h
 | field t x i=>simp only[effK,a x (by simp[Op.operands])]at h ⊢;exact h
 | indexAddr t x i=>
  simp only[effK,a x (by simp[Op.operands]),a i (by simp[Op.operands])]at h ⊢;split at h
  case h_2=>cases h
  split at h
  ·exact h
  ·split at h
   ·rename_i hx;first | exact h | (simp only[hx];exact h)
   ·rename_i b hx;split at h
    case h_2=>cases h
    rename_i tr l g;split at h
    case h_2=>cases h
    rename_i D;obtain⟨j,K,z⟩:=ax h;have A:=z;simp only[aw]at A;simp only[hx,B b (by rw[<-A];simp),g,D,K,oO,z]
   ·rename_i hx;first | exact h | (simp only[hx];exact h)
   ·cases h
  ·cases h
 | index t x i=>simp only[effK,a x (by simp[Op.operands]),a i (by simp[Op.operands])]at h ⊢;exact h
 | range t x=>simp only[effK,a x (by simp[Op.operands])]at h ⊢;exact h
 | typeAssert x xt at_ ok=>simp only[effK,a x (by simp[Op.operands])]at h ⊢;exact h
 | extract x i=>simp only[effK,a x (by simp[Op.operands])]at h ⊢;exact h
 | call cl=>
  have:=pJ (ρ:=ρ) (ρ':=ρ') (l:=cl.args.toList) λx hx=>a x (by simp only[Op.operands,Call.operands,AO,md];exact .inr hx);simp only[effK,this]at h ⊢;split at h
  case h_2=>cases h
  obtain⟨args,ha,q⟩:=ax h;simp only[ha,oO];split at q
  ·split at q
   ·exact q
   ·exact q
   ·exact q
   ·rename_i b;split at q
    case h_2=>cases q
    split at q
    case h_2=>cases q
    split at q
    case h_2=>cases q
    rename_i g;have C:=q;simp only[aw]at C;simp only[B b (by rw[<-C];simp),g, *]
   ·exact q
   ·rename_i x n1 n2 n3 n4 n5;cases x<;>first | exact q | exact absurd rfl (n1 _) | exact absurd rfl (n2 _ _ _ _) | exact absurd rfl n3 | exact absurd rfl (n4 _) | exact absurd rfl (n5 _ _ _ _ _)
   ·cases q
  ·exact q
  ·exact q
  ·exact q
  ·cases q
 | _=>simp[effK]at h
def Qy{α:Type}{ρ:Operand->Option V}{H:List (Nat×Blk)}{f:Nat}{op:Op}{c:Eff->Option α}{z:α}(h:effK P ρ H f op c=some z):
  ∃e,effK P ρ H f op some=some e/\c e=some z:=by
 have h':ob (effK P ρ H f op some) c=some z:=(TG ρ H f op some c).symm.trans h;exact ax h'
def GR{a b:Nat}(h:b<=a):max a b=a:=Nat.max_eq_left h
def FQ {α:Type} {E:List Ent} (hE:∀x∈E,gV P x) {n fr:Nat} {s:St} {o:Oper} (hnb:fr+8<=s.nb) {k:St->List Nat->List (Nat×Blk)->Nat->Option α} {kp:V->St->Option α} {z:α}
  (h:FU P E n fr o s k kp=some z):
  (∃val wr rd g,k (s.app o.dst val wr s.nb) rd wr g=some z/\∀s':St,(∀x∈o.op.operands.toList,opd s'.T x=opd s.T x)->(∀b∈rd,look s'.H b=look s.H b)->s'.nb=s.nb->s'.ro=s.ro->
   ∀(ι0:Inj) (w0:Base) (ι:Inj) (a:Act) (w:World),Inv n ι0 w0 ι s' a w->(∀b,fr<=b->b<fr+8->ι b=none)->∀(next:Act->World->Prop) (Q:Exit->Act->World->Prop),
    (∀c D w',(∀b,(b<fr\/fr+8<=b)->c b=ι b)->Inv n ι0 w0 c (s'.app o.dst val wr s'.nb) D w'->next D w')->o.wp P a w next Q)\/
  (∃(v:V) (wr:List (Nat×Blk)) (rd:List Nat),kp v (s.app none none wr s.nb)=some z/\∀s':St,(∀x∈o.op.operands.toList,opd s'.T x=opd s.T x)->(∀b∈rd,look s'.H b=look s.H b)->s'.nb=s.nb->s'.ro=s.ro->
   ∀(ι0:Inj) (w0:Base) (ι:Inj) (a:Act) (w:World),Inv n ι0 w0 ι s' a w->(∀b,fr<=b->b<fr+8->ι b=none)->∀(next:Act->World->Prop) (Q:Exit->Act->World->Prop),
    (∀c x w',VR c v x->Inv n ι0 w0 c (s'.app none none wr s'.nb) a w'->Q (.panic [{ v:=x,recovered:=false }]) a w')->o.wp P a w next Q):=by
 unfold FU at h;split at h
 ·cases h
 rename_i hd;have U:xF P (Dv E) fr o s k=some z->∃val wr rd g,k (s.app o.dst val wr s.nb) rd wr g=some z/\∀s':St,(∀x∈o.op.operands.toList,opd s'.T x=opd s.T x)->(∀b∈rd,look s'.H b=look s.H b)->s'.nb=s.nb->s'.ro=s.ro->
   ∀(ι0:Inj) (w0:Base) (ι:Inj) (a:Act) (w:World),Inv n ι0 w0 ι s' a w->(∀b,fr<=b->b<fr+8->ι b=none)->∀(next:Act->World->Prop) (Q:Exit->Act->World->Prop),
    (∀c D w',(∀b,(b<fr\/fr+8<=b)->c b=ι b)->Inv n ι0 w0 c (s'.app o.dst val wr s'.nb) D w'->next D w')->o.wp P a w next Q:=by
  intro h;unfold xF at h;obtain ⟨e,he,W⟩:=Qy h;split at W;rename_i v wr g hne;split at W
  case h_2=>cases W
  rename_i X;simp only [aD] at X;have hg8:=aR X.2;have N:nbOf s.nb fr g=s.nb:=by
   cases g with
   | zero=>rfl
   | succ g=>exact GR (by omega)
  rw [N] at W;refine ⟨v,wr,e.rd,g,W,λs' h1 G h3 hro ι0 w0 ι a w B j next Q I=>?_⟩;have hf:=j fr (bi _) (by omega);have he':=MP he h1 G;obtain ⟨e',h4,S⟩:=N8 B.tmps B.mem hf he';simp only [aw] at h4;subst h4;refine JF B hf hd S (λK bb hw=>by
   have:=X.1;unfold roOK at this;rw [hw] at this;simp only [K] at this;rw [hro];exact aR this) λc D w' J g2 d=>?_
  obtain ⟨ι2,k1,k2⟩:=CQ hne d (λb u M Y=>by
   by_cases O:b=fr
   ·subst O;rw [g2 (.inr (Y rfl))];exact hf
   ·rw [J b O];exact j b u (by omega)) (λbb hw K=>iJ.new_eq S hw K) (nb:=s'.nb) (by
    split
    ·rw [GR (by omega)];exact bi _
    ·exact bi _) (by omega)
  exact I ι2 D w' (λb hb'=>by rw [k1 b (by omega)];exact J b (by omega)) k2
 split at h
 ·rename_i cl m;split at h
  ·rename_i g p;split at h
   ·rename_i f cap hg;obtain ⟨l,hl,h⟩:=ax h;obtain ⟨r,G,h3⟩:=yR hE h;split at G
    ·cases G
    rename_i A;simp only [aD] at A;obtain ⟨A,F,q⟩:=A;have q:r.kill=[]:=by simpa using q
    have A:=aR A;rw [GR (by omega)] at G;split at G
    ·rename_i i;refine .inr ⟨_,_,r.rd,G,λs' u M Y Z ι0 w0 ι a w B j next Q I=>?_⟩;obtain ⟨C,args,tys⟩:=cl;simp only at p;subst p;rw [m] at u;have L:=u g (by simp [Op.operands,Call.operands]);have e5:=pJ (ρ:=opd s.T) (ρ':=opd s'.T) (l:=args.toList) λx hx=>u x (by simp only [Op.operands,Call.operands,AO,md];exact .inr hx);refine DL m B (λb q1 q2=>j b q1 (by omega)) hd (by rw [L];exact hg) (by rw [e5];exact hl) (by rw [Z];exact F) (by rw [q];rfl) (h3 _ M) (λhp=>by rw [hp] at i;cases i) (λ_ c x w' J d=>?_);rw [GR (by omega)] at d;rw [q] at d;exact I c x w' J d
    rename_i i;refine .inl ⟨_,_,_,_,G,λs' u M Y Z ι0 w0 ι a w B j next Q I=>?_⟩;obtain ⟨C,args,tys⟩:=cl;simp only at p;subst p;rw [m] at u;have L:=u g (by simp [Op.operands,Call.operands]);have e5:=pJ (ρ:=opd s.T) (ρ':=opd s'.T) (l:=args.toList) λx hx=>u x (by simp only [Op.operands,Call.operands,AO,md];exact .inr hx);refine DL m B (λb q1 q2=>j b q1 (by omega)) hd (by rw [L];exact hg) (by rw [e5];exact hl) (by rw [Z];exact F) (by rw [q];rfl) (h3 _ M) (λ_ c D w' J d=>?_) (λhp=>by rw [hp] at i;cases i);rw [GR (by omega)] at d;rw [q] at J d;exact I c D w' (λb X=>J b rfl (by omega)) d
   ·cases h
  ·exact .inl (U h)
 ·rename_i x m;split at h
  ·rename_i t v hx;refine .inr ⟨_,[],[],h,λs' u M Y Z ι0 w0 ι a w B j next Q I=>?_⟩;rw [m] at u;have L:=u x (by simp [Op.operands]);have hv:=bL B.tmps (by rw [L];exact hx);have hv':=hv;simp only [VR] at hv;obtain ⟨y,h6,_⟩:=hv;unfold Oper.wp;have R:(execOp a.eval o).run P w=.halt (.panic (.iface t y)) w:=by
    simp only [execOp,m,h6,Instr.panic,ay,run_goPanic,Result.andThen_halt]
   rw [R];exact I ι _ w (h6▸hv') B
  ·cases h
 ·exact .inl (U h)
end Go.Abs
