
import Derived.Test.YtadejcglcffgbacGreatDoorAbsL
set_option linter.unusedVariables false
set_option linter.unusedSimpArgs false
set_option linter.defProp false
namespace Go.Abs
variable {P:Program}
def jW{ρ ρ':Operand->Option V}:∀{l:List Operand},(∀x∈l,ρ' x=ρ x)->opds ρ' l=opds ρ l
 | [],_=>rfl
 | x::l,h=>by
  simp only[opds,h x (by simp),jW λy a=>h y (fE _ a)]
def lu{ρ ρ':Operand->Option V}:∀{l:List (Nat×Operand)},(∀x∈l,ρ' x.2=ρ x.2)->lD ρ' l=lD ρ l
 | [],_=>rfl
 | (i,x)::l,h=>by
  have h1:ρ' x=ρ x:=h (i,x) (by simp);simp only[lD,h1,lu λy a=>h y (fE _ a)]
def qE{ρ ρ':Operand->Option V}{x:Option Operand}(h:∀y,x=some y->ρ' y=ρ y):mG ρ' x=mG ρ x:=by
 cases x with
 | none=>rfl
 | some y=>simp only[mG,h y rfl]
def HC{α:Type}{n len:Nat}{h:Option Int}{c:Nat->Option α}{z:α}(a:hiK n len h c=some z):∃m,c m=some z:=by
 unfold hiK at a;split at a
 ·exact⟨_,a⟩
 ·obtain⟨m,_,h2⟩:=ah a;exact⟨m,h2⟩
def Hl{α:Type}{n:Nat}{h:Option Int}{c:Nat->Option α}{z:α}(a:loK n h c=some z):∃m,c m=some z:=by
 unfold loK at a;split at a
 ·exact⟨_,a⟩
 ·obtain⟨m,_,h2⟩:=ah a;exact⟨m,h2⟩
def zo{α:Type}{t:TypeId}{blk:Blk}{o:Nat}{v:V}{c:Blk->Option α}{z:α}(h:ml P t blk o v c=some z):∃b,c b=some z:=by
 have h':ob (ml P t blk o v some) c=some z:=(np t blk o v some c).symm.trans h;obtain⟨b,_,h2⟩:=ah h';exact⟨b,h2⟩
def EX{H a:List (Nat×Blk)}{u:V}{m:Nat}{rd:List Nat}(h:slL H u=some (m,rd))(e:∀b∈rd,look a b=look H b):slL a u=some (m,rd):=by
 unfold slL at h ⊢;split at h
 ·rename_i c;split at h
  case h_2=>cases h
  rename_i tr l d;simp only[af,ca]at h;obtain⟨rfl,rfl⟩:=h;simp only[e c (by simp),d]
 ·exact h
 ·cases h
def BL{ρ ρ':Operand->Option V}{H S:List (Nat×Blk)}{f:Nat}{op:Op}{e:Eff}(h:effK P ρ H f op some=some e)(a:∀x∈op.operands.toList,ρ' x=ρ x)
  (B:∀b∈e.rd,look S b=look H b):effK P ρ' S f op some=some e:=by
 cases op with
 | load t x=>
  have k:=a x (by simp[Op.operands]);simp only[effK,k]at h ⊢;split at h
  ·rename_i b o O;split at h
   ·rename_i blk g;have A:=h;rw[show(λv=>some ({ val:=some v,rd:=[b] }:Eff))=λv=>ob (some v) λv=>some ({ val:=some v,rd:=[b] }:Eff)from rfl,pp]at A;obtain⟨v,_,h2⟩:=ah A;simp only[af]at h2;have F:=B b (by rw[<-h2];simp);simp only[F,g,h]
   ·cases h
  ·rename_i zz b j o O;split at h
   case h_2=>cases h
   rename_i tr l g;split at h
   case h_2=>cases h
   rename_i D;obtain⟨xr,N,A⟩:=ah h;have h'':=A;rw[show(λv=>some ({ val:=some v,rd:=[b] }:Eff))=λv=>ob (some v) λv=>some ({ val:=some v,rd:=[b] }:Eff)from rfl,pp]at A;obtain⟨v,_,h2⟩:=ah A;simp only[af]at h2;have F:=B b (by rw[<-h2];simp);simp only[F,g,D,N,jB,h'']
  ·cases h
 | makeSlice t x y=>simp only[effK,a x (by simp[Op.operands]),a y (by simp[Op.operands])]at h ⊢;exact h
 | store t x y=>
  have k:=a x (by simp[Op.operands]);have K:=a y (by simp[Op.operands]);simp only[effK,k,K]at h ⊢;split at h
  ·rename_i b o O;obtain⟨v,E,h⟩:=ah h;split at h
   ·rename_i blk g;have A:=h;rw[show(λr=>some ({ val:=none,rd:=[b],wr:=some (b,r) }:Eff))=λr=>ob (some r) λr=>some ({ val:=none,rd:=[b],wr:=some (b,r) }:Eff)from rfl,np]at A;obtain⟨v',_,h2⟩:=ah A;simp only[af]at h2;have F:=B b (by rw[<-h2];simp);simp only[E,jB,F,g,h]
   ·cases h
  ·rename_i zz b j o O;obtain⟨v,E,A⟩:=ah h;split at A
   case h_2=>cases A
   rename_i tr l g;split at A
   case h_2=>cases A
   rename_i D;obtain⟨xr,N,h1⟩:=ah A;have h2:=h1;obtain⟨r,J⟩:=zo h1;split at J
   case h_2=>cases J
   obtain⟨x',_,T⟩:=ah J;simp only[af]at T;have F:=B b (by rw[<-T];simp);simp only[E,jB,F,g,D,N,h2]
  ·cases h
 | move x=>simp only[effK,a x (by simp[Op.operands])]at h ⊢;exact h
 | assign x=>simp only[effK,a x (by simp[Op.operands])]at h ⊢;exact h
 | pick c x y=>simp only[effK,a c (by simp[Op.operands]),a x (by simp[Op.operands]),a y (by simp[Op.operands])]at h ⊢;exact h
 | alloc t=>exact h
 | box t x=>simp only[effK,a x (by simp[Op.operands])]at h ⊢;exact h
 | build t W=>
  have:=lu (ρ:=ρ) (ρ':=ρ') (l:=W.toList) λx k=>a x.2 (by simp only[Op.operands,ch];exact⟨x,k,rfl⟩);simp only[effK,this]at h ⊢;exact h
 | buildSlice t n W=>
  have:=lu (ρ:=ρ) (ρ':=ρ') (l:=W.toList) λx k=>a x.2 (by simp only[Op.operands,ch];exact⟨x,k,rfl⟩);simp only[effK,this]at h ⊢;exact h
 | nilCheck x=>simp only[effK,a x (by simp[Op.operands])]at h ⊢;exact h
 | binOp o t x y yt=>
  simp only[effK,a x (by simp[Op.operands]),a y (by simp[Op.operands])]at h ⊢;obtain⟨u,I,h⟩:=ah h;obtain⟨v,E,h⟩:=ah h;rw[I,E];simp only[jB];split at h
  ·exact h
  ·split at h
   ·split at h
    case h_2=>cases h
    rename_i m rd Z;obtain⟨hm,h⟩:=bR h;have X:=EX Z λb g=>B b (by rw[<-aM h];exact g);rw[X];simp only[hm,aj];exact h
   ·exact h
 | unOp o t x=>simp only[effK,a x (by simp[Op.operands])]at h ⊢;exact h
 | convert s d x=>
  simp only[effK,a x (by simp[Op.operands])]at h ⊢;obtain⟨v,E,q⟩:=ah h;rw[E];simp only[jB];have key:∀b,e.rd=[b]->look S b=look H b:=λb he=>B b (by rw[he];simp);cases v<;>try exact q
  ·rename_i b;split at q
   case h_2=>cases q
   split at q
   ·cases q
   ·simp only at q ⊢;split at q
    case h_2=>cases q
    split at q
    case h_2=>cases q
    split at q
    case h_2=>cases q
    rename_i g;have C:=q;simp only[af]at C;rw[key b (by rw[<-C]),g];exact q
   ·split at q<;>cases q
   ·cases q
  ·rename_i zz b j n _;split at q
   case h_2=>cases q
   split at q
   ·cases q
   ·simp only at q ⊢;split at q
    case h_2=>cases q
    split at q
    case h_2=>cases q
    split at q
    case h_2=>cases q
    rename_i g;split at q
    case h_2=>cases q
    rename_i D;obtain⟨hc,C⟩:=bR q;simp only[af]at C;rw[key b (by rw[<-C]),g];simp only[D];exact q
   ·split at q<;>cases q
   ·cases q
  ·rename_i b o m cap;split at q
   case h_2=>cases q
   split at q
   ·cases q
   ·simp only at q ⊢;split at q
    case h_2=>cases q
    split at q
    case h_2=>cases q
    split at q
    case h_2=>cases q
    rename_i g;obtain⟨hc,C⟩:=bR q;simp only[af]at C;rw[key b (by rw[<-C]),g];exact q
   ·split at q<;>cases q
   ·cases q
 | next x str=>
  have k:=a x (by simp[Op.operands]);simp only[effK,k]at h ⊢;split at h
  case h_2=>cases h
  rename_i b O;split at h
  case h_2=>cases h
  rename_i l pos g;have F:look S b=look H b:=B b (by
   cases hc:Nat.blt pos l.length<;>rw[hc]at h<;>simp only[aj,ae,af]at h<;>rw[<-h]<;>simp)
  simp only[F,g];exact h
 | makeInterface t x=>simp only[effK,a x (by simp[Op.operands])]at h ⊢;exact h
 | makeFunc fn first cap=>
  have:=jW (ρ:=ρ) (ρ':=ρ') (l:=cap.toList) λx k=>a x (by simp only[Op.operands,tY,kn];exact .inr k);have h2:=jW (ρ:=ρ) (ρ':=ρ') (l:=first.toList) λx k=>a x (by simp only[Op.operands,tY,kn];exact .inl k);simp only[effK,this,h2]at h ⊢;exact h
 | slice t x lo hi mx=>
  have h1:=a x (by simp[Op.operands]);have h2:=qE (ρ:=ρ) (ρ':=ρ') (x:=lo) λy K=>a y (by simp[Op.operands,K]);have J:=qE (ρ:=ρ) (ρ':=ρ') (x:=hi) λy K=>a y (by simp[Op.operands,K]);simp only[effK,h1,h2,J]at h ⊢;cases mx with
  | some m=>
   simp only at h ⊢;have T:=a m (by simp[Op.operands]);cases lo with
   | some _=>exact h
   | none=>
   cases hi with
   | none=>exact h
   | some E=>
   have h5:=a E (by simp[Op.operands]);simp only[pS,h1,T,h5]at h ⊢;obtain⟨u,I,z⟩:=ah h;simp only[I,jB];clear h;split at z
   case h_2=>cases z
   split at z
   case h_2=>cases z
   split at z
   case h_2=>cases z
   split at z
   ·rename_i b;split at z
    case h_2=>cases z
    rename_i tr l g;split at z
    case h_2=>cases z
    rename_i D;obtain⟨M,hM,R⟩:=ah z;obtain⟨L,hL,w⟩:=ah R;have Q:=w;simp only[af]at Q;simp only[B b (by rw[<-Q];simp),g,D,hM,hL,jB,w]
   ·exact z
   ·exact z
   ·cases z
  | none=>
  simp only at h ⊢;obtain⟨u,I,z⟩:=ah h;obtain⟨l,Z,R⟩:=ah z;obtain⟨hh,U,w⟩:=ah R;simp only[I,Z,U,jB];clear h z R;split at w
  ·exact w
  ·exact w
  ·split at w
   case h_2=>cases w
   cases u<;>try exact w
   case sl=>rename_i cap;cases cap<;>exact w
   rename_i b;simp only at w ⊢;split at w
   case h_2=>cases w
   rename_i tr m g;split at w
   case h_2=>cases w
   rename_i D;obtain⟨H1,Q⟩:=HC w;obtain⟨L1,q5⟩:=Hl Q;simp only[af]at q5;rw[B b (by rw[<-q5];simp),g];simp only[D];exact w
  ·cases w
 | makeMap t x=>exact h
 | insert t m x y=>
  simp only[effK,a m (by simp[Op.operands]),a x (by simp[Op.operands]),a y (by simp[Op.operands])]at h ⊢;split at h
  case h_2=>cases h
  rename_i b hm;split at h
  case h_2=>cases h
  split at h
  case h_2=>cases h
  split at h
  case h_2=>cases h
  split at h
  case h_2=>cases h
  rename_i k1 l g;split at h
  case h_2=>cases h
  rename_i G;rw[B b (by rw[<-aM h];simp),g];simp only[G];exact h
 | lookup t m x ok=>
  simp only[effK,a m (by simp[Op.operands]),a x (by simp[Op.operands])]at h ⊢;split at h
  case h_2=>cases h
  rename_i b hm;split at h
  case h_2=>cases h
  split at h
  case h_2=>cases h
  split at h
  case h_2=>cases h
  split at h
  case h_2=>cases h
  rename_i k1 l g;split at h
  case h_2=>cases h
  rename_i G;have Y:e.rd=[b]:=by
   clear g;revert h;generalize l=l'
   induction l' with
   | nil=>intro h;cases h
   | cons p l ih=>
    intro h;simp only[mapK]at h;revert h;cases(_==p.1)with
    | true=>intro h;rw[<-aM h]
    | false=>exact ih
  rw[B b (by rw[Y];simp),g];simp only[G];exact h
 | fieldAddr t x i=>simp only[effK,a x (by simp[Op.operands])]at h ⊢;exact h
 | field t x i=>simp only[effK,a x (by simp[Op.operands])]at h ⊢;exact h
 | indexAddr t x i=>
  simp only[effK,a x (by simp[Op.operands]),a i (by simp[Op.operands])]at h ⊢;split at h
  case h_2=>cases h
  split at h
  ·exact h
  ·split at h
   ·rename_i k;first | exact h | (simp only[k];exact h)
   ·rename_i b k;split at h
    case h_2=>cases h
    rename_i tr l g;split at h
    case h_2=>cases h
    rename_i D;obtain⟨j,N,A⟩:=ah h;have h2:=A;simp only[af]at h2;simp only[k,B b (by rw[<-h2];simp),g,D,N,jB,A]
   ·rename_i k;first | exact h | (simp only[k];exact h)
   ·cases h
  ·cases h
 | index t x i=>simp only[effK,a x (by simp[Op.operands]),a i (by simp[Op.operands])]at h ⊢;exact h
 | range t x=>simp only[effK,a x (by simp[Op.operands])]at h ⊢;exact h
 | typeAssert x xt at_ ok=>simp only[effK,a x (by simp[Op.operands])]at h ⊢;exact h
 | extract x i=>simp only[effK,a x (by simp[Op.operands])]at h ⊢;exact h
 | call cl=>
  have:=jW (ρ:=ρ) (ρ':=ρ') (l:=cl.args.toList) λx k=>a x (by simp only[Op.operands,Call.operands,tY,kn];exact .inr k);simp only[effK,this]at h ⊢;split at h
  case h_2=>cases h
  obtain⟨args,ha,q⟩:=ah h;simp only[ha,jB];split at q
  ·split at q
   ·exact q
   ·exact q
   ·exact q
   ·rename_i b;split at q
    case h_2=>cases q
    split at q
    case h_2=>cases q
    split at q
    case h_2=>cases q
    rename_i g;have C:=q;simp only[af]at C;simp only[B b (by rw[<-C];simp),g, *]
   ·exact q
   ·rename_i x n1 n2 n3 n4 n5;cases x<;>first | exact q | exact absurd rfl (n1 _) | exact absurd rfl (n2 _ _ _ _) | exact absurd rfl n3 | exact absurd rfl (n4 _) | exact absurd rfl (n5 _ _ _ _ _)
   ·cases q
  ·exact q
  ·exact q
  ·exact q
  ·cases q
 | _=>simp[effK]at h
def DD{α:Type}{ρ:Operand->Option V}{H:List (Nat×Blk)}{f:Nat}{op:Op}{c:Eff->Option α}{z:α}(h:effK P ρ H f op c=some z):
  ∃e,effK P ρ H f op some=some e/\c e=some z:=by
 have h':ob (effK P ρ H f op some) c=some z:=(HM ρ H f op some c).symm.trans h;exact ah h'
def xl{a b:Nat}(h:b<=a):max a b=a:=Nat.max_eq_left h
def xO {α:Type} {E:List Ent} (hE:∀x∈E,cN P x) {n fr:Nat} {s:St} {o:Oper} (hnb:fr+8<=s.nb) {k:St->List Nat->List (Nat×Blk)->Nat->Option α} {kp:V->St->Option α} {z:α}
  (h:yw P E n fr o s k kp=some z):
  (∃val wr rd g,k (s.app o.dst val wr s.nb) rd wr g=some z/\∀c:St,(∀x∈o.op.operands.toList,opd c.T x=opd s.T x)->(∀b∈rd,look c.H b=look s.H b)->c.nb=s.nb->c.ro=s.ro->
   ∀(ι0:Inj) (w0:Base) (ι:Inj) (a:Act) (w:World),Inv n ι0 w0 ι c a w->(∀b,fr<=b->b<fr+8->ι b=none)->∀(next:Act->World->Prop) (Q:Exit->Act->World->Prop),
    (∀d D w',(∀b,(b<fr\/fr+8<=b)->d b=ι b)->Inv n ι0 w0 d (c.app o.dst val wr c.nb) D w'->next D w')->o.wp P a w next Q)\/
  (∃(v:V) (wr:List (Nat×Blk)) (rd:List Nat),kp v (s.app none none wr s.nb)=some z/\∀c:St,(∀x∈o.op.operands.toList,opd c.T x=opd s.T x)->(∀b∈rd,look c.H b=look s.H b)->c.nb=s.nb->c.ro=s.ro->
   ∀(ι0:Inj) (w0:Base) (ι:Inj) (a:Act) (w:World),Inv n ι0 w0 ι c a w->(∀b,fr<=b->b<fr+8->ι b=none)->∀(next:Act->World->Prop) (Q:Exit->Act->World->Prop),
    (∀d x w',VR d v x->Inv n ι0 w0 d (c.app none none wr c.nb) a w'->Q (.panic [{ v:=x,recovered:=false }]) a w')->o.wp P a w next Q):=by
 unfold yw at h;split at h
 ·cases h
 rename_i hd;have R:qi P (wS E) fr o s k=some z->∃val wr rd g,k (s.app o.dst val wr s.nb) rd wr g=some z/\∀c:St,(∀x∈o.op.operands.toList,opd c.T x=opd s.T x)->(∀b∈rd,look c.H b=look s.H b)->c.nb=s.nb->c.ro=s.ro->
   ∀(ι0:Inj) (w0:Base) (ι:Inj) (a:Act) (w:World),Inv n ι0 w0 ι c a w->(∀b,fr<=b->b<fr+8->ι b=none)->∀(next:Act->World->Prop) (Q:Exit->Act->World->Prop),
    (∀d D w',(∀b,(b<fr\/fr+8<=b)->d b=ι b)->Inv n ι0 w0 d (c.app o.dst val wr c.nb) D w'->next D w')->o.wp P a w next Q:=by
  intro h;unfold qi at h;obtain ⟨e,he,S⟩:=DD h;split at S;rename_i v wr g hne;split at S
  case h_2=>cases S
  rename_i Y;simp only [aw] at Y;have hg8:=az Y.2;have U:nbOf s.nb fr g=s.nb:=by
   cases g with
   | zero=>rfl
   | succ g=>exact xl (by omega)
  rw [U] at S;refine ⟨v,wr,e.rd,g,S,λc h1 h2 h3 hro ι0 w0 ι a w C p next Q I=>?_⟩;have hf:=p fr (aI _) (by omega);have he':=BL he h1 h2;obtain ⟨e',h4,O⟩:=Ec C.tmps C.mem hf he';simp only [af] at h4;subst h4;refine Bo C hf hd O (λJ bb hw=>by
   have:=Y.1;unfold roOK at this;rw [hw] at this;simp only [J] at this;rw [hro];exact az this) λd D w' K g2 i=>?_
  obtain ⟨ι2,k1,k2⟩:=uF hne i (λb A L Z=>by
   by_cases M:b=fr
   ·subst M;rw [g2 (.inr (Z rfl))];exact hf
   ·rw [K b M];exact p b A (by omega)) (λbb hw J=>eh.new_eq O hw J) (nb:=c.nb) (by
    split
    ·rw [xl (by omega)];exact aI _
    ·exact aI _) (by omega)
  exact I ι2 D w' (λb hb'=>by rw [k1 b (by omega)];exact K b (by omega)) k2
 split at h
 ·rename_i cl m;split at h
  ·rename_i g q;split at h
   ·rename_i f cap hg;obtain ⟨l,hl,h⟩:=ah h;obtain ⟨r,h2,h3⟩:=rj hE h;split at h2
    ·cases h2
    rename_i B;simp only [aw] at B;obtain ⟨B,G,u⟩:=B;have u:r.kill=[]:=by simpa using u
    have B:=az B;rw [xl (by omega)] at h2;split at h2
    ·rename_i j;refine .inr ⟨_,_,r.rd,h2,λc A L Z e9 ι0 w0 ι a w C p next Q I=>?_⟩;obtain ⟨F,args,tys⟩:=cl;simp only at q;subst q;rw [m] at A;have X:=A g (by simp [Op.operands,Call.operands]);have e5:=jW (ρ:=opd s.T) (ρ':=opd c.T) (l:=args.toList) λx W=>A x (by simp only [Op.operands,Call.operands,tY,kn];exact .inr W);refine wn m C (λb q1 q2=>p b q1 (by omega)) hd (by rw [X];exact hg) (by rw [e5];exact hl) (by rw [e9];exact G) (by rw [u];rfl) (h3 _ L) (λhp=>by rw [hp] at j;cases j) (λ_ d x w' K i=>?_);rw [xl (by omega)] at i;rw [u] at i;exact I d x w' K i
    rename_i j;refine .inl ⟨_,_,_,_,h2,λc A L Z e9 ι0 w0 ι a w C p next Q I=>?_⟩;obtain ⟨F,args,tys⟩:=cl;simp only at q;subst q;rw [m] at A;have X:=A g (by simp [Op.operands,Call.operands]);have e5:=jW (ρ:=opd s.T) (ρ':=opd c.T) (l:=args.toList) λx W=>A x (by simp only [Op.operands,Call.operands,tY,kn];exact .inr W);refine wn m C (λb q1 q2=>p b q1 (by omega)) hd (by rw [X];exact hg) (by rw [e5];exact hl) (by rw [e9];exact G) (by rw [u];rfl) (h3 _ L) (λ_ d D w' K i=>?_) (λhp=>by rw [hp] at j;cases j);rw [xl (by omega)] at i;rw [u] at K i;exact I d D w' (λb Y=>K b rfl (by omega)) i
   ·cases h
  ·exact .inl (R h)
 ·rename_i x m;split at h
  ·rename_i t v W;refine .inr ⟨_,[],[],h,λc A L Z e9 ι0 w0 ι a w C p next Q I=>?_⟩;rw [m] at A;have X:=A x (by simp [Op.operands]);have hv:=aP C.tmps (by rw [X];exact W);have hv':=hv;simp only [VR] at hv;obtain ⟨y,h6,_⟩:=hv;unfold Oper.wp;have N:(execOp a.eval o).run P w=.halt (.panic (.iface t y)) w:=by
    simp only [execOp,m,h6,Instr.panic,al,run_goPanic,Result.andThen_halt]
   rw [N];exact I ι _ w (h6▸hv') C
  ·cases h
 ·exact .inl (R h)
end Go.Abs
