
import Derived.Test.YtadejcglcffgbaaGreatDoorAbsL
set_option linter.unusedVariables false
set_option linter.unusedSimpArgs false
set_option linter.defProp false
namespace Go.Abs
variable {P:Program}
def nN{ρ ρ':Operand->Option V}:∀{l:List Operand},(∀x∈l,ρ' x=ρ x)->opds ρ' l=opds ρ l
 | [],_=>rfl
 | x::l,h=>by
  simp only[opds,h x (by simp),nN λy hy=>h y (fD _ hy)]
def qk{ρ ρ':Operand->Option V}:∀{l:List (Nat×Operand)},(∀x∈l,ρ' x.2=ρ x.2)->qe ρ' l=qe ρ l
 | [],_=>rfl
 | (i,x)::l,h=>by
  have a:ρ' x=ρ x:=h (i,x) (by simp);simp only[qe,a,qk λy hy=>h y (fD _ hy)]
def vE{ρ ρ':Operand->Option V}{x:Option Operand}(h:∀y,x=some y->ρ' y=ρ y):rl ρ' x=rl ρ x:=by
 cases x with
 | none=>rfl
 | some y=>simp only[rl,h y rfl]
def PY{α:Type}{n len:Nat}{h:Option Int}{c:Nat->Option α}{z:α}(a:hiK n len h c=some z):∃m,c m=some z:=by
 unfold hiK at a;split at a
 ·exact⟨_,a⟩
 ·obtain⟨m,_,b⟩:=ax a;exact⟨m,b⟩
def PK{α:Type}{n:Nat}{h:Option Int}{c:Nat->Option α}{z:α}(a:loK n h c=some z):∃m,c m=some z:=by
 unfold loK at a;split at a
 ·exact⟨_,a⟩
 ·obtain⟨m,_,b⟩:=ax a;exact⟨m,b⟩
def GN{α:Type}{t:TypeId}{blk:Blk}{o:Nat}{v:V}{c:Blk->Option α}{z:α}(h:ri P t blk o v c=some z):∃b,c b=some z:=by
 have h':ob (ri P t blk o v some) c=some z:=(so t blk o v some c).symm.trans h;obtain⟨b,_,a⟩:=ax h';exact⟨b,a⟩
def KZ{H a:List (Nat×Blk)}{u:V}{m:Nat}{rd:List Nat}(h:slL H u=some (m,rd))(e:∀b∈rd,look a b=look H b):slL a u=some (m,rd):=by
 unfold slL at h ⊢;split at h
 ·rename_i c;split at h
  case h_2=>cases h
  rename_i tr l d;simp only[aq,bC]at h;obtain⟨rfl,rfl⟩:=h;simp only[e c (by simp),d]
 ·exact h
 ·cases h
def Jx{ρ ρ':Operand->Option V}{H R:List (Nat×Blk)}{f:Nat}{op:Op}{e:Eff}(h:effK P ρ H f op some=some e)(a:∀x∈op.operands.toList,ρ' x=ρ x)
  (B:∀b∈e.rd,look R b=look H b):effK P ρ' R f op some=some e:=by
 cases op with
 | load t x=>
  have hx:=a x (by simp[Op.operands]);simp only[effK,hx]at h ⊢;split at h
  ·rename_i b o hp;split at h
   ·rename_i blk g;have w:=h;rw[show(λv=>some ({ val:=some v,rd:=[b] }:Eff))=λv=>ob (some v) λv=>some ({ val:=some v,rd:=[b] }:Eff)from rfl,uq]at w;obtain⟨v,_,A⟩:=ax w;simp only[aq]at A;have E:=B b (by rw[<-A];simp);simp only[E,g,h]
   ·cases h
  ·rename_i zz b j o hp;split at h
   case h_2=>cases h
   rename_i tr l g;split at h
   case h_2=>cases h
   rename_i C;obtain⟨xr,J,w⟩:=ax h;have h'':=w;rw[show(λv=>some ({ val:=some v,rd:=[b] }:Eff))=λv=>ob (some v) λv=>some ({ val:=some v,rd:=[b] }:Eff)from rfl,uq]at w;obtain⟨v,_,A⟩:=ax w;simp only[aq]at A;have E:=B b (by rw[<-A];simp);simp only[E,g,C,J,mZ,h'']
  ·cases h
 | makeSlice t x y=>simp only[effK,a x (by simp[Op.operands]),a y (by simp[Op.operands])]at h ⊢;exact h
 | store t x y=>
  have hx:=a x (by simp[Op.operands]);have hy:=a y (by simp[Op.operands]);simp only[effK,hx,hy]at h ⊢;split at h
  ·rename_i b o hp;obtain⟨v,F,h⟩:=ax h;split at h
   ·rename_i blk g;have w:=h;rw[show(λk=>some ({ val:=none,rd:=[b],wr:=some (b,k) }:Eff))=λk=>ob (some k) λk=>some ({ val:=none,rd:=[b],wr:=some (b,k) }:Eff)from rfl,so]at w;obtain⟨v',_,A⟩:=ax w;simp only[aq]at A;have E:=B b (by rw[<-A];simp);simp only[F,mZ,E,g,h]
   ·cases h
  ·rename_i zz b j o hp;obtain⟨v,F,w⟩:=ax h;split at w
   case h_2=>cases w
   rename_i tr l g;split at w
   case h_2=>cases w
   rename_i C;obtain⟨xr,J,I⟩:=ax w;have A:=I;obtain⟨k,K⟩:=GN I;split at K
   case h_2=>cases K
   obtain⟨x',_,S⟩:=ax K;simp only[aq]at S;have E:=B b (by rw[<-S];simp);simp only[F,mZ,E,g,C,J,A]
  ·cases h
 | move x=>simp only[effK,a x (by simp[Op.operands])]at h ⊢;exact h
 | assign x=>simp only[effK,a x (by simp[Op.operands])]at h ⊢;exact h
 | pick c x y=>simp only[effK,a c (by simp[Op.operands]),a x (by simp[Op.operands]),a y (by simp[Op.operands])]at h ⊢;exact h
 | alloc t=>exact h
 | box t x=>simp only[effK,a x (by simp[Op.operands])]at h ⊢;exact h
 | build t Y=>
  have:=qk (ρ:=ρ) (ρ':=ρ') (l:=Y.toList) λx hx=>a x.2 (by simp only[Op.operands,eF];exact⟨x,hx,rfl⟩);simp only[effK,this]at h ⊢;exact h
 | buildSlice t n Y=>
  have:=qk (ρ:=ρ) (ρ':=ρ') (l:=Y.toList) λx hx=>a x.2 (by simp only[Op.operands,eF];exact⟨x,hx,rfl⟩);simp only[effK,this]at h ⊢;exact h
 | nilCheck x=>simp only[effK,a x (by simp[Op.operands])]at h ⊢;exact h
 | binOp o t x y yt=>
  simp only[effK,a x (by simp[Op.operands]),a y (by simp[Op.operands])]at h ⊢;obtain⟨u,N,h⟩:=ax h;obtain⟨v,F,h⟩:=ax h;rw[N,F];simp only[mZ];split at h
  ·exact h
  ·split at h
   ·split at h
    case h_2=>cases h
    rename_i m rd Z;obtain⟨U,h⟩:=dU h;have X:=KZ Z λb g=>B b (by rw[<-br h];exact g);rw[X];simp only[U,aj];exact h
   ·exact h
 | unOp o t x=>simp only[effK,a x (by simp[Op.operands])]at h ⊢;exact h
 | convert s d x=>
  simp only[effK,a x (by simp[Op.operands])]at h ⊢;obtain⟨v,F,q⟩:=ax h;rw[F];simp only[mZ];have key:∀b,e.rd=[b]->look R b=look H b:=λb he=>B b (by rw[he];simp);cases v<;>try exact q
  ·rename_i b;split at q
   case h_2=>cases q
   split at q
   ·cases q
   ·simp only at q ⊢;split at q
    case h_2=>cases q
    split at q
    case h_2=>cases q
    split at q
    case h_2=>cases q
    rename_i g;have D:=q;simp only[aq]at D;rw[key b (by rw[<-D]),g];exact q
   ·split at q<;>cases q
   ·cases q
  ·rename_i zz b j n _;split at q
   case h_2=>cases q
   split at q
   ·cases q
   ·simp only at q ⊢;split at q
    case h_2=>cases q
    split at q
    case h_2=>cases q
    split at q
    case h_2=>cases q
    rename_i g;split at q
    case h_2=>cases q
    rename_i C;obtain⟨hc,D⟩:=dU q;simp only[aq]at D;rw[key b (by rw[<-D]),g];simp only[C];exact q
   ·split at q<;>cases q
   ·cases q
  ·rename_i b o m cap;split at q
   case h_2=>cases q
   split at q
   ·cases q
   ·simp only at q ⊢;split at q
    case h_2=>cases q
    split at q
    case h_2=>cases q
    split at q
    case h_2=>cases q
    rename_i g;obtain⟨hc,D⟩:=dU q;simp only[aq]at D;rw[key b (by rw[<-D]),g];exact q
   ·split at q<;>cases q
   ·cases q
 | next x str=>
  have hx:=a x (by simp[Op.operands]);simp only[effK,hx]at h ⊢;split at h
  case h_2=>cases h
  rename_i b hp;split at h
  case h_2=>cases h
  rename_i l pos g;have E:look R b=look H b:=B b (by
   cases hc:Nat.blt pos l.length<;>rw[hc]at h<;>simp only[aj,af,aq]at h<;>rw[<-h]<;>simp)
  simp only[E,g];exact h
 | makeInterface t x=>simp only[effK,a x (by simp[Op.operands])]at h ⊢;exact h
 | makeFunc fn first cap=>
  have:=nN (ρ:=ρ) (ρ':=ρ') (l:=cap.toList) λx hx=>a x (by simp only[Op.operands,yo,kQ];exact .inr hx);have A:=nN (ρ:=ρ) (ρ':=ρ') (l:=first.toList) λx hx=>a x (by simp only[Op.operands,yo,kQ];exact .inl hx);simp only[effK,this,A]at h ⊢;exact h
 | slice t x lo hi mx=>
  have I:=a x (by simp[Op.operands]);have A:=vE (ρ:=ρ) (ρ':=ρ') (x:=lo) λy hy=>a y (by simp[Op.operands,hy]);have K:=vE (ρ:=ρ) (ρ':=ρ') (x:=hi) λy hy=>a y (by simp[Op.operands,hy]);simp only[effK,I,A,K]at h ⊢;cases mx with
  | some m=>
   simp only at h ⊢;have S:=a m (by simp[Op.operands]);cases lo with
   | some _=>exact h
   | none=>
   cases hi with
   | none=>exact h
   | some F=>
   have h5:=a F (by simp[Op.operands]);simp only[ve,I,S,h5]at h ⊢;obtain⟨u,N,r⟩:=ax h;simp only[N,mZ];clear h;split at r
   case h_2=>cases r
   split at r
   case h_2=>cases r
   split at r
   case h_2=>cases r
   split at r
   ·rename_i b;split at r
    case h_2=>cases r
    rename_i tr l g;split at r
    case h_2=>cases r
    rename_i C;obtain⟨M,hM,O⟩:=ax r;obtain⟨L,hL,z⟩:=ax O;have Q:=z;simp only[aq]at Q;simp only[B b (by rw[<-Q];simp),g,C,hM,hL,mZ,z]
   ·exact r
   ·exact r
   ·cases r
  | none=>
  simp only at h ⊢;obtain⟨u,N,r⟩:=ax h;obtain⟨l,Z,O⟩:=ax r;obtain⟨hh,W,z⟩:=ax O;simp only[N,Z,W,mZ];clear h r O;split at z
  ·exact z
  ·exact z
  ·split at z
   case h_2=>cases z
   cases u<;>try exact z
   case sl=>rename_i cap;cases cap<;>exact z
   rename_i b;simp only at z ⊢;split at z
   case h_2=>cases z
   rename_i tr m g;split at z
   case h_2=>cases z
   rename_i C;obtain⟨H1,Q⟩:=PY z;obtain⟨L1,q5⟩:=PK Q;simp only[aq]at q5;rw[B b (by rw[<-q5];simp),g];simp only[C];exact z
  ·cases z
 | makeMap t x=>exact h
 | insert t m x y=>
  simp only[effK,a m (by simp[Op.operands]),a x (by simp[Op.operands]),a y (by simp[Op.operands])]at h ⊢;split at h
  case h_2=>cases h
  rename_i b U;split at h
  case h_2=>cases h
  split at h
  case h_2=>cases h
  split at h
  case h_2=>cases h
  split at h
  case h_2=>cases h
  rename_i k1 l g;split at h
  case h_2=>cases h
  rename_i G;rw[B b (by rw[<-br h];simp),g];simp only[G];exact h
 | lookup t m x ok=>
  simp only[effK,a m (by simp[Op.operands]),a x (by simp[Op.operands])]at h ⊢;split at h
  case h_2=>cases h
  rename_i b U;split at h
  case h_2=>cases h
  split at h
  case h_2=>cases h
  split at h
  case h_2=>cases h
  split at h
  case h_2=>cases h
  rename_i k1 l g;split at h
  case h_2=>cases h
  rename_i G;have T:e.rd=[b]:=by
   clear g;revert h;generalize l=l'
   induction l' with
   | nil=>intro h;cases h
   | cons p l ih=>
    intro h;simp only[mapK]at h;revert h;cases(_==p.1)with
    | true=>intro h;rw[<-br h]
    | false=>exact ih
  rw[B b (by rw[T];simp),g];simp only[G];exact h
 | fieldAddr t x i=>simp only[effK,a x (by simp[Op.operands])]at h ⊢;exact h
 | field t x i=>simp only[effK,a x (by simp[Op.operands])]at h ⊢;exact h
 | indexAddr t x i=>
  simp only[effK,a x (by simp[Op.operands]),a i (by simp[Op.operands])]at h ⊢;split at h
  case h_2=>cases h
  split at h
  ·exact h
  ·split at h
   ·rename_i hx;first | exact h | (simp only[hx];exact h)
   ·rename_i b hx;split at h
    case h_2=>cases h
    rename_i tr l g;split at h
    case h_2=>cases h
    rename_i C;obtain⟨j,J,w⟩:=ax h;have A:=w;simp only[aq]at A;simp only[hx,B b (by rw[<-A];simp),g,C,J,mZ,w]
   ·rename_i hx;first | exact h | (simp only[hx];exact h)
   ·cases h
  ·cases h
 | index t x i=>simp only[effK,a x (by simp[Op.operands]),a i (by simp[Op.operands])]at h ⊢;exact h
 | range t x=>simp only[effK,a x (by simp[Op.operands])]at h ⊢;exact h
 | typeAssert x xt at_ ok=>simp only[effK,a x (by simp[Op.operands])]at h ⊢;exact h
 | extract x i=>simp only[effK,a x (by simp[Op.operands])]at h ⊢;exact h
 | call cl=>
  have:=nN (ρ:=ρ) (ρ':=ρ') (l:=cl.args.toList) λx hx=>a x (by simp only[Op.operands,Call.operands,yo,kQ];exact .inr hx);simp only[effK,this]at h ⊢;split at h
  case h_2=>cases h
  obtain⟨args,ha,q⟩:=ax h;simp only[ha,mZ];split at q
  ·split at q
   ·exact q
   ·exact q
   ·exact q
   ·rename_i b;split at q
    case h_2=>cases q
    split at q
    case h_2=>cases q
    split at q
    case h_2=>cases q
    rename_i g;have D:=q;simp only[aq]at D;simp only[B b (by rw[<-D];simp),g, *]
   ·exact q
   ·rename_i x n1 n2 n3 n4 n5;cases x<;>first | exact q | exact absurd rfl (n1 _) | exact absurd rfl (n2 _ _ _ _) | exact absurd rfl n3 | exact absurd rfl (n4 _) | exact absurd rfl (n5 _ _ _ _ _)
   ·cases q
  ·exact q
  ·exact q
  ·exact q
  ·cases q
 | _=>simp[effK]at h
def NS{α:Type}{ρ:Operand->Option V}{H:List (Nat×Blk)}{f:Nat}{op:Op}{c:Eff->Option α}{z:α}(h:effK P ρ H f op c=some z):
  ∃e,effK P ρ H f op some=some e/\c e=some z:=by
 have h':ob (effK P ρ H f op some) c=some z:=(Qk ρ H f op some c).symm.trans h;exact ax h'
def Ey{a b:Nat}(h:b<=a):max a b=a:=Nat.max_eq_left h
def Dw {α:Type} {E:List Ent} (hE:∀x∈E,fC P x) {n fr:Nat} {s:St} {o:Oper} (hnb:fr+8<=s.nb) {k:St->List Nat->List (Nat×Blk)->Nat->Option α} {kp:V->St->Option α} {z:α}
  (h:Dp P E n fr o s k kp=some z):
  (∃val wr rd g,k (s.app o.dst val wr s.nb) rd wr g=some z/\∀s':St,(∀x∈o.op.operands.toList,opd s'.T x=opd s.T x)->(∀b∈rd,look s'.H b=look s.H b)->s'.nb=s.nb->s'.ro=s.ro->
   ∀(ι0:Inj) (w0:Base) (ι:Inj) (a:Act) (w:World),Inv n ι0 w0 ι s' a w->(∀b,fr<=b->b<fr+8->ι b=none)->∀(next:Act->World->Prop) (Q:Exit->Act->World->Prop),
    (∀c C w',(∀b,(b<fr\/fr+8<=b)->c b=ι b)->Inv n ι0 w0 c (s'.app o.dst val wr s'.nb) C w'->next C w')->o.wp P a w next Q)\/
  (∃(v:V) (wr:List (Nat×Blk)) (rd:List Nat),kp v (s.app none none wr s.nb)=some z/\∀s':St,(∀x∈o.op.operands.toList,opd s'.T x=opd s.T x)->(∀b∈rd,look s'.H b=look s.H b)->s'.nb=s.nb->s'.ro=s.ro->
   ∀(ι0:Inj) (w0:Base) (ι:Inj) (a:Act) (w:World),Inv n ι0 w0 ι s' a w->(∀b,fr<=b->b<fr+8->ι b=none)->∀(next:Act->World->Prop) (Q:Exit->Act->World->Prop),
    (∀c x w',VR c v x->Inv n ι0 w0 c (s'.app none none wr s'.nb) a w'->Q (.panic [{ v:=x,recovered:=false }]) a w')->o.wp P a w next Q):=by
 unfold Dp at h;split at h
 ·cases h
 rename_i hd;have L:vw P (Bg E) fr o s k=some z->∃val wr rd g,k (s.app o.dst val wr s.nb) rd wr g=some z/\∀s':St,(∀x∈o.op.operands.toList,opd s'.T x=opd s.T x)->(∀b∈rd,look s'.H b=look s.H b)->s'.nb=s.nb->s'.ro=s.ro->
   ∀(ι0:Inj) (w0:Base) (ι:Inj) (a:Act) (w:World),Inv n ι0 w0 ι s' a w->(∀b,fr<=b->b<fr+8->ι b=none)->∀(next:Act->World->Prop) (Q:Exit->Act->World->Prop),
    (∀c C w',(∀b,(b<fr\/fr+8<=b)->c b=ι b)->Inv n ι0 w0 c (s'.app o.dst val wr s'.nb) C w'->next C w')->o.wp P a w next Q:=by
  intro h;unfold vw at h;obtain ⟨e,he,W⟩:=NS h;split at W;rename_i v wr g hne;split at W
  case h_2=>cases W
  rename_i X;simp only [aB] at X;have hg8:=aI X.2;have R:nbOf s.nb fr g=s.nb:=by
   cases g with
   | zero=>rfl
   | succ g=>exact Ey (by omega)
  rw [R] at W;refine ⟨v,wr,e.rd,g,W,λs' h1 G h3 hro ι0 w0 ι a w B j next Q I=>?_⟩;have hf:=j fr (aU _) (by omega);have he':=Jx he h1 G;obtain ⟨e',h4,U⟩:=Lp B.tmps B.mem hf he';simp only [aq] at h4;subst h4;refine Ho B hf hd U (λJ bb hw=>by
   have:=X.1;unfold roOK at this;rw [hw] at this;simp only [J] at this;rw [hro];exact aI this) λc C w' K g2 d=>?_
  obtain ⟨ι2,k1,k2⟩:=Ac hne d (λb u S Y=>by
   by_cases N:b=fr
   ·subst N;rw [g2 (.inr (Y rfl))];exact hf
   ·rw [K b N];exact j b u (by omega)) (λbb hw J=>gR.new_eq U hw J) (nb:=s'.nb) (by
    split
    ·rw [Ey (by omega)];exact aU _
    ·exact aU _) (by omega)
  exact I ι2 C w' (λb hb'=>by rw [k1 b (by omega)];exact K b (by omega)) k2
 split at h
 ·rename_i cl m;split at h
  ·rename_i g p;split at h
   ·rename_i f cap hg;obtain ⟨l,hl,h⟩:=ax h;obtain ⟨r,G,h3⟩:=wy hE h;split at G
    ·cases G
    rename_i A;simp only [aB] at A;obtain ⟨A,F,q⟩:=A;have q:r.kill=[]:=by simpa using q
    have A:=aI A;rw [Ey (by omega)] at G;split at G
    ·rename_i i;refine .inr ⟨_,_,r.rd,G,λs' u S Y Z ι0 w0 ι a w B j next Q I=>?_⟩;obtain ⟨D,args,tys⟩:=cl;simp only at p;subst p;rw [m] at u;have O:=u g (by simp [Op.operands,Call.operands]);have e5:=nN (ρ:=opd s.T) (ρ':=opd s'.T) (l:=args.toList) λx hx=>u x (by simp only [Op.operands,Call.operands,yo,kQ];exact .inr hx);refine AN m B (λb q1 q2=>j b q1 (by omega)) hd (by rw [O];exact hg) (by rw [e5];exact hl) (by rw [Z];exact F) (by rw [q];rfl) (h3 _ S) (λhp=>by rw [hp] at i;cases i) (λ_ c x w' K d=>?_);rw [Ey (by omega)] at d;rw [q] at d;exact I c x w' K d
    rename_i i;refine .inl ⟨_,_,_,_,G,λs' u S Y Z ι0 w0 ι a w B j next Q I=>?_⟩;obtain ⟨D,args,tys⟩:=cl;simp only at p;subst p;rw [m] at u;have O:=u g (by simp [Op.operands,Call.operands]);have e5:=nN (ρ:=opd s.T) (ρ':=opd s'.T) (l:=args.toList) λx hx=>u x (by simp only [Op.operands,Call.operands,yo,kQ];exact .inr hx);refine AN m B (λb q1 q2=>j b q1 (by omega)) hd (by rw [O];exact hg) (by rw [e5];exact hl) (by rw [Z];exact F) (by rw [q];rfl) (h3 _ S) (λ_ c C w' K d=>?_) (λhp=>by rw [hp] at i;cases i);rw [Ey (by omega)] at d;rw [q] at K d;exact I c C w' (λb X=>K b rfl (by omega)) d
   ·cases h
  ·exact .inl (L h)
 ·rename_i x m;split at h
  ·rename_i t v hx;refine .inr ⟨_,[],[],h,λs' u S Y Z ι0 w0 ι a w B j next Q I=>?_⟩;rw [m] at u;have O:=u x (by simp [Op.operands]);have hv:=bz B.tmps (by rw [O];exact hx);have hv':=hv;simp only [VR] at hv;obtain ⟨y,h6,_⟩:=hv;unfold Oper.wp;have M:(execOp a.eval o).run P w=.halt (.panic (.iface t y)) w:=by
    simp only [execOp,m,h6,Instr.panic,az,run_goPanic,Result.andThen_halt]
   rw [M];exact I ι _ w (h6▸hv') B
  ·cases h
 ·exact .inl (L h)
end Go.Abs
