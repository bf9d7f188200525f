
/- An operation's effect hangs on what it looks at: the operations of the model.
   Conditions: none; generic over the program. -/
import Derived.Test.YtaogbalpingjhaaGreatDoorAbsL
set_option linter.unusedVariables false
set_option linter.unusedSimpArgs false
namespace Go.Abs
variable {P:Program}
theorem je {ρ ρ':Operand->Option V}:∀{l:List Operand},(∀x∈l,ρ' x=ρ x)->opds ρ' l=opds ρ l
 | [],_=>rfl
 | x::l,h=>by
  simp only [opds,h x (by simp),je λy a=>h y (iL _ a)]
theorem kJ {ρ ρ':Operand->Option V}:∀{l:List (Nat×Operand)},(∀x∈l,ρ' x.2=ρ x.2)->kO ρ' l=kO ρ l
 | [],_=>rfl
 | (i,x)::l,h=>by
  have b:ρ' x=ρ x:=h (i,x) (by simp);simp only [kO,b,kJ λy a=>h y (iL _ a)]
theorem px {ρ ρ':Operand->Option V} {x:Option Operand} (h:∀y,x=some y->ρ' y=ρ y):lX ρ' x=lX ρ x:=by
 cases x with
 | none=>rfl
 | some y=>simp only [lX,h y rfl]
theorem Eu {α:Type} {n len:Nat} {h:Option Int} {c:Nat->Option α} {z:α} (a:hiK n len h c=some z):∃m,c m=some z:=by
 unfold hiK at a;split at a
 ·exact ⟨_,a⟩
 ·obtain ⟨m,_,b⟩:=ah a;exact ⟨m,b⟩
theorem E1 {α:Type} {n:Nat} {h:Option Int} {c:Nat->Option α} {z:α} (a:loK n h c=some z):∃m,c m=some z:=by
 unfold loK at a;split at a
 ·exact ⟨_,a⟩
 ·obtain ⟨m,_,b⟩:=ah a;exact ⟨m,b⟩
theorem wt {α:Type} {t:TypeId} {blk:Blk} {o:Nat} {v:V} {c:Blk->Option α} {z:α} (h:lV P t blk o v c=some z):∃b,c b=some z:=by
 have h':ob (lV P t blk o v some) c=some z:=(l5 t blk o v some c).symm.trans h;obtain ⟨b,_,a⟩:=ah h';exact ⟨b,a⟩
theorem Dk {H a:List (Nat×Blk)} {u:V} {m:Nat} {rd:List Nat} (h:slL H u=some (m,rd)) (e:∀b∈rd,look a b=look H b):slL a u=some (m,rd):=by
 unfold slL at h ⊢;split at h
 ·rename_i c;split at h
  case h_2=>cases h
  rename_i tr l d;simp only [ae,bX] at h;obtain ⟨rfl,rfl⟩:=h;simp only [e c (by simp),d]
 ·exact h
 ·cases h
theorem zS {ρ ρ':Operand->Option V} {H T:List (Nat×Blk)} {f:Nat} {op:Op} {e:Eff} (h:effK P ρ H f op some=some e) (a:∀x∈op.operands.toList,ρ' x=ρ x)
  (C:∀b∈e.rd,look T b=look H b):effK P ρ' T f op some=some e:=by
 cases op with
 | load t x=>
  have k:=a x (by simp [Op.operands]);simp only [effK,k] at h ⊢;split at h
  ·rename_i b o U;split at h
   ·rename_i blk g;have w:=h;rw [show (λv=>some ({ val:=some v,rd:=[b] }:Eff))=λv=>ob (some v) λv=>some ({ val:=some v,rd:=[b] }:Eff) from rfl,nV] at w;obtain ⟨v,_,B⟩:=ah w;simp only [ae] at B;have F:=C b (by rw [<-B];simp);simp only [F,g,h]
   ·cases h
  ·rename_i zz b j o U;split at h
   case h_2=>cases h
   rename_i tr l g;split at h
   case h_2=>cases h
   rename_i E;obtain ⟨xr,Q,w⟩:=ah h;have h'':=w;rw [show (λv=>some ({ val:=some v,rd:=[b] }:Eff))=λv=>ob (some v) λv=>some ({ val:=some v,rd:=[b] }:Eff) from rfl,nV] at w;obtain ⟨v,_,B⟩:=ah w;simp only [ae] at B;have F:=C b (by rw [<-B];simp);simp only [F,g,E,Q,iO,h'']
  ·cases h
 | makeSlice t x y=>simp only [effK,a x (by simp [Op.operands]),a y (by simp [Op.operands])] at h ⊢;exact h
 | store t x y=>
  have k:=a x (by simp [Op.operands]);have J:=a y (by simp [Op.operands]);simp only [effK,k,J] at h ⊢;split at h
  ·rename_i b o U;obtain ⟨v,G,h⟩:=ah h;split at h
   ·rename_i blk g;have w:=h;rw [show (λr=>some ({ val:=none,rd:=[b],wr:=some (b,r) }:Eff))=λr=>ob (some r) λr=>some ({ val:=none,rd:=[b],wr:=some (b,r) }:Eff) from rfl,l5] at w;obtain ⟨v',_,B⟩:=ah w;simp only [ae] at B;have F:=C b (by rw [<-B];simp);simp only [G,iO,F,g,h]
   ·cases h
  ·rename_i zz b j o U;obtain ⟨v,G,w⟩:=ah h;split at w
   case h_2=>cases w
   rename_i tr l g;split at w
   case h_2=>cases w
   rename_i E;obtain ⟨xr,Q,O⟩:=ah w;have B:=O;obtain ⟨r,N⟩:=wt O;split at N
   case h_2=>cases N
   obtain ⟨x',_,S⟩:=ah N;simp only [ae] at S;have F:=C b (by rw [<-S];simp);simp only [G,iO,F,g,E,Q,B]
  ·cases h
 | move x=>simp only [effK,a x (by simp [Op.operands])] at h ⊢;exact h
 | assign x=>simp only [effK,a x (by simp [Op.operands])] at h ⊢;exact h
 | pick c x y=>simp only [effK,a c (by simp [Op.operands]),a x (by simp [Op.operands]),a y (by simp [Op.operands])] at h ⊢;exact h
 | alloc t=>exact h
 | box t x=>simp only [effK,a x (by simp [Op.operands])] at h ⊢;exact h
 | build t ps=>
  have:=kJ (ρ:=ρ) (ρ':=ρ') (l:=ps.toList) λx k=>a x.2 (by simp only [Op.operands,eC];exact ⟨x,k,rfl⟩);simp only [effK,this] at h ⊢;exact h
 | buildSlice t n ps=>
  have:=kJ (ρ:=ρ) (ρ':=ρ') (l:=ps.toList) λx k=>a x.2 (by simp only [Op.operands,eC];exact ⟨x,k,rfl⟩);simp only [effK,this] at h ⊢;exact h
 | nilCheck x=>simp only [effK,a x (by simp [Op.operands])] at h ⊢;exact h
 | binOp o t x y yt=>
  simp only [effK,a x (by simp [Op.operands]),a y (by simp [Op.operands])] at h ⊢;obtain ⟨u,K,h⟩:=ah h;obtain ⟨v,G,h⟩:=ah h;rw [K,G];simp only [iO];split at h
  ·exact h
  ·split at h
   ·split at h
    case h_2=>cases h
    rename_i m rd Z;obtain ⟨X,h⟩:=ca h;have hl2:=Dk Z λb g=>C b (by rw [<-aN h];exact g);rw [hl2];simp only [X,ar];exact h
   ·exact h
 | unOp o t x=>simp only [effK,a x (by simp [Op.operands])] at h ⊢;exact h
 | convert s d x=>
  simp only [effK,a x (by simp [Op.operands])] at h ⊢;obtain ⟨v,G,q⟩:=ah h;rw [G];simp only [iO];have key:∀b,e.rd=[b]->look T b=look H b:=λb he=>C b (by rw [he];simp);cases v<;>try exact q
  ·rename_i b;split at q
   case h_2=>cases q
   split at q
   ·cases q
   ·simp only at q ⊢;split at q
    case h_2=>cases q
    split at q
    case h_2=>cases q
    split at q
    case h_2=>cases q
    rename_i g;have D:=q;simp only [ae] at D;rw [key b (by rw [<-D]),g];exact q
   ·split at q<;>cases q
   ·cases q
  ·rename_i zz b j n _;split at q
   case h_2=>cases q
   split at q
   ·cases q
   ·simp only at q ⊢;split at q
    case h_2=>cases q
    split at q
    case h_2=>cases q
    split at q
    case h_2=>cases q
    rename_i g;split at q
    case h_2=>cases q
    rename_i E;obtain ⟨hc,D⟩:=ca q;simp only [ae] at D;rw [key b (by rw [<-D]),g];simp only [E];exact q
   ·split at q<;>cases q
   ·cases q
  ·rename_i b o m cap;split at q
   case h_2=>cases q
   split at q
   ·cases q
   ·simp only at q ⊢;split at q
    case h_2=>cases q
    split at q
    case h_2=>cases q
    split at q
    case h_2=>cases q
    rename_i g;obtain ⟨hc,D⟩:=ca q;simp only [ae] at D;rw [key b (by rw [<-D]),g];exact q
   ·split at q<;>cases q
   ·cases q
 | next x str=>
  have k:=a x (by simp [Op.operands]);simp only [effK,k] at h ⊢;split at h
  case h_2=>cases h
  rename_i b U;split at h
  case h_2=>cases h
  rename_i l pos g;have F:look T b=look H b:=C b (by
   cases hc:Nat.blt pos l.length<;>rw [hc] at h<;>simp only [ar,af,ae] at h<;>rw [<-h]<;>simp)
  simp only [F,g];exact h
 | makeInterface t x=>simp only [effK,a x (by simp [Op.operands])] at h ⊢;exact h
 | makeFunc fn first cap=>
  have:=je (ρ:=ρ) (ρ':=ρ') (l:=cap.toList) λx k=>a x (by simp only [Op.operands,qJ,mN];exact .inr k);have B:=je (ρ:=ρ) (ρ':=ρ') (l:=first.toList) λx k=>a x (by simp only [Op.operands,qJ,mN];exact .inl k);simp only [effK,this,B] at h ⊢;exact h
 | slice t x lo hi mx=>
  have O:=a x (by simp [Op.operands]);have B:=px (ρ:=ρ) (ρ':=ρ') (x:=lo) λy J=>a y (by simp [Op.operands,J]);have N:=px (ρ:=ρ) (ρ':=ρ') (x:=hi) λy J=>a y (by simp [Op.operands,J]);simp only [effK,O,B,N] at h ⊢;cases mx with
  | some m=>
   simp only at h ⊢;have S:=a m (by simp [Op.operands]);cases lo with
   | some _=>exact h
   | none=>
   cases hi with
   | none=>exact h
   | some G=>
   have h5:=a G (by simp [Op.operands]);simp only [oJ,O,S,h5] at h ⊢;obtain ⟨u,K,A⟩:=ah h;simp only [K,iO];clear h;split at A
   case h_2=>cases A
   split at A
   case h_2=>cases A
   split at A
   case h_2=>cases A
   split at A
   ·rename_i b;split at A
    case h_2=>cases A
    rename_i tr l g;split at A
    case h_2=>cases A
    rename_i E;obtain ⟨M,hM,W⟩:=ah A;obtain ⟨L,hL,z⟩:=ah W;have R:=z;simp only [ae] at R;simp only [C b (by rw [<-R];simp),g,E,hM,hL,iO,z]
   ·exact A
   ·exact A
   ·cases A
  | none=>
  simp only at h ⊢;obtain ⟨u,K,A⟩:=ah h;obtain ⟨l,Z,W⟩:=ah A;obtain ⟨hh,Y,z⟩:=ah W;simp only [K,Z,Y,iO];clear h A W;split at z
  ·exact z
  ·exact z
  ·split at z
   case h_2=>cases z
   cases u<;>try exact z
   case sl=>rename_i cap;cases cap<;>exact z
   rename_i b;simp only at z ⊢;split at z
   case h_2=>cases z
   rename_i tr m g;split at z
   case h_2=>cases z
   rename_i E;obtain ⟨H1,R⟩:=Eu z;obtain ⟨L1,q5⟩:=E1 R;simp only [ae] at q5;rw [C b (by rw [<-q5];simp),g];simp only [E];exact z
  ·cases z
 | makeMap t x=>exact h
 | insert t m x y=>
  simp only [effK,a m (by simp [Op.operands]),a x (by simp [Op.operands]),a y (by simp [Op.operands])] at h ⊢;split at h
  case h_2=>cases h
  rename_i b X;split at h
  case h_2=>cases h
  split at h
  case h_2=>cases h
  split at h
  case h_2=>cases h
  split at h
  case h_2=>cases h
  rename_i k1 l g;split at h
  case h_2=>cases h
  rename_i I;rw [C b (by rw [<-aN h];simp),g];simp only [I];exact h
 | lookup t m x ok=>
  simp only [effK,a m (by simp [Op.operands]),a x (by simp [Op.operands])] at h ⊢;split at h
  case h_2=>cases h
  rename_i b X;split at h
  case h_2=>cases h
  split at h
  case h_2=>cases h
  split at h
  case h_2=>cases h
  split at h
  case h_2=>cases h
  rename_i k1 l g;split at h
  case h_2=>cases h
  rename_i I;have hrd:e.rd=[b]:=by
   clear g;revert h;generalize l=l'
   induction l' with
   | nil=>intro h;cases h
   | cons p l ih=>
    intro h;simp only [mapK] at h;revert h;cases (_==p.1) with
    | true=>intro h;rw [<-aN h]
    | false=>exact ih
  rw [C b (by rw [hrd];simp),g];simp only [I];exact h
 | fieldAddr t x i=>simp only [effK,a x (by simp [Op.operands])] at h ⊢;exact h
 | field t x i=>simp only [effK,a x (by simp [Op.operands])] at h ⊢;exact h
 | indexAddr t x i=>
  simp only [effK,a x (by simp [Op.operands]),a i (by simp [Op.operands])] at h ⊢;split at h
  case h_2=>cases h
  split at h
  ·exact h
  ·split at h
   ·rename_i k;first | exact h | (simp only [k];exact h)
   ·rename_i b k;split at h
    case h_2=>cases h
    rename_i tr l g;split at h
    case h_2=>cases h
    rename_i E;obtain ⟨j,Q,w⟩:=ah h;have B:=w;simp only [ae] at B;simp only [k,C b (by rw [<-B];simp),g,E,Q,iO,w]
   ·rename_i k;first | exact h | (simp only [k];exact h)
   ·cases h
  ·cases h
 | index t x i=>simp only [effK,a x (by simp [Op.operands]),a i (by simp [Op.operands])] at h ⊢;exact h
 | range t x=>simp only [effK,a x (by simp [Op.operands])] at h ⊢;exact h
 | typeAssert x xt at_ ok=>simp only [effK,a x (by simp [Op.operands])] at h ⊢;exact h
 | extract x i=>simp only [effK,a x (by simp [Op.operands])] at h ⊢;exact h
 | call cl=>
  have:=je (ρ:=ρ) (ρ':=ρ') (l:=cl.args.toList) λx k=>a x (by simp only [Op.operands,Call.operands,qJ,mN];exact .inr k);simp only [effK,this] at h ⊢;split at h
  case h_2=>cases h
  obtain ⟨args,ha,q⟩:=ah h;simp only [ha,iO];split at q
  ·split at q
   ·exact q
   ·exact q
   ·exact q
   ·rename_i b;split at q
    case h_2=>cases q
    split at q
    case h_2=>cases q
    split at q
    case h_2=>cases q
    rename_i g;have D:=q;simp only [ae] at D;simp only [C b (by rw [<-D];simp),g, *]
   ·exact q
   ·rename_i x n1 n2 n3 n4 n5;cases x<;>first | exact q | exact absurd rfl (n1 _) | exact absurd rfl (n2 _ _ _ _) | exact absurd rfl n3 | exact absurd rfl (n4 _) | exact absurd rfl (n5 _ _ _ _ _)
   ·cases q
  ·exact q
  ·exact q
  ·exact q
  ·cases q
 | _=>simp [effK] at h
theorem Cd {α:Type} {ρ:Operand->Option V} {H:List (Nat×Blk)} {f:Nat} {op:Op} {c:Eff->Option α} {z:α} (h:effK P ρ H f op c=some z):
  ∃e,effK P ρ H f op some=some e/\c e=some z:=by
 have h':ob (effK P ρ H f op some) c=some z:=(FR ρ H f op some c).symm.trans h;exact ah h'
theorem vh {a b:Nat} (h:b<=a):max a b=a:=Nat.max_eq_left h
theorem ve {α:Type} {E:List Ent} (hE:∀x∈E,cD P x) {n fr:Nat} {s:St} {o:Oper} (hnb:fr+8<=s.nb) {k:St->List Nat->List (Nat×Blk)->Nat->Option α} {kp:V->St->Option α} {z:α}
  (h:wg P E n fr o s k kp=some z):
  (∃val wr rd g,k (s.app o.dst val wr s.nb) rd wr g=some z/\∀c:St,(∀x∈o.op.operands.toList,opd c.T x=opd s.T x)->(∀b∈rd,look c.H b=look s.H b)->c.nb=s.nb->c.ro=s.ro->
   ∀(ι0:Inj) (w0:Base) (ι:Inj) (a:Act) (w:World),Inv n ι0 w0 ι c a w->(∀b,fr<=b->b<fr+8->ι b=none)->∀(next:Act->World->Prop) (Q:Exit->Act->World->Prop),
    (∀d F w',(∀b,(b<fr\/fr+8<=b)->d b=ι b)->Inv n ι0 w0 d (c.app o.dst val wr c.nb) F w'->next F w')->o.wp P a w next Q)\/
  (∃(v:V) (wr:List (Nat×Blk)) (rd:List Nat),kp v (s.app none none wr s.nb)=some z/\∀c:St,(∀x∈o.op.operands.toList,opd c.T x=opd s.T x)->(∀b∈rd,look c.H b=look s.H b)->c.nb=s.nb->c.ro=s.ro->
   ∀(ι0:Inj) (w0:Base) (ι:Inj) (a:Act) (w:World),Inv n ι0 w0 ι c a w->(∀b,fr<=b->b<fr+8->ι b=none)->∀(next:Act->World->Prop) (Q:Exit->Act->World->Prop),
    (∀d x w',VR d v x->Inv n ι0 w0 d (c.app none none wr c.nb) a w'->Q (.panic [{ v:=x,recovered:=false }]) a w')->o.wp P a w next Q):=by
 unfold wg at h;split at h
 ·cases h
 rename_i hd;have O:ow P fr o s k=some z->∃val wr rd g,k (s.app o.dst val wr s.nb) rd wr g=some z/\∀c:St,(∀x∈o.op.operands.toList,opd c.T x=opd s.T x)->(∀b∈rd,look c.H b=look s.H b)->c.nb=s.nb->c.ro=s.ro->
   ∀(ι0:Inj) (w0:Base) (ι:Inj) (a:Act) (w:World),Inv n ι0 w0 ι c a w->(∀b,fr<=b->b<fr+8->ι b=none)->∀(next:Act->World->Prop) (Q:Exit->Act->World->Prop),
    (∀d F w',(∀b,(b<fr\/fr+8<=b)->d b=ι b)->Inv n ι0 w0 d (c.app o.dst val wr c.nb) F w'->next F w')->o.wp P a w next Q:=by
  intro h;unfold ow at h;obtain ⟨e,he,S⟩:=Cd h;split at S;rename_i v wr g hne;split at S
  case h_2=>cases S
  rename_i Z;simp only [av] at Z;have hg8:=ax Z.2;have X:nbOf s.nb fr g=s.nb:=by
   cases g with
   | zero=>rfl
   | succ g=>exact vh (by omega)
  rw [X] at S;refine ⟨v,wr,e.rd,g,S,λc h1 I h3 hro ι0 w0 ι a w C m next Q K=>?_⟩;have hf:=m fr (aL _) (by omega);have he':=zS he h1 I;obtain ⟨e',h4,R⟩:=Ba C.tmps C.mem hf he';simp only [ae] at h4;subst h4;refine yw C hf hd R (λL bb hw=>by
   have:=Z.1;unfold roOK at this;rw [hw] at this;simp only [L] at this;rw [hro];exact ax this) λd F w' J g2 i=>?_
  obtain ⟨ι2,k1,k2⟩:=uN hne i (λb A W e3=>by
   by_cases Y:b=fr
   ·subst Y;rw [g2 (.inr (e3 rfl))];exact hf
   ·rw [J b Y];exact m b A (by omega)) (λbb hw L=>dt.new_eq R hw L) (nb:=c.nb) (by
    split
    ·rw [vh (by omega)];exact aL _
    ·exact aL _) (by omega)
  exact K ι2 F w' (λb hb'=>by rw [k1 b (by omega)];exact J b (by omega)) k2
 split at h
 ·rename_i cl p;split at h
  ·rename_i g q;split at h
   ·rename_i f cap hg;obtain ⟨l,hl,h⟩:=ah h;obtain ⟨r,I,h3⟩:=pY hE h;split at I
    ·cases I
    rename_i B;simp only [av] at B;obtain ⟨B,G,u⟩:=B;have u:r.kill=[]:=by simpa using u
    have B:=ax B;rw [vh (by omega)] at I;split at I
    ·rename_i j;refine .inr ⟨_,_,r.rd,I,λc A W e3 e9 ι0 w0 ι a w C m next Q K=>?_⟩;obtain ⟨D,args,tys⟩:=cl;simp only at q;subst q;rw [p] at A;have M:=A g (by simp [Op.operands,Call.operands]);have e5:=je (ρ:=opd s.T) (ρ':=opd c.T) (l:=args.toList) λx U=>A x (by simp only [Op.operands,Call.operands,qJ,mN];exact .inr U);refine uv p C (λb q1 q2=>m b q1 (by omega)) hd (by rw [M];exact hg) (by rw [e5];exact hl) (by rw [e9];exact G) (by rw [u];rfl) (h3 _ W) (λhp=>by rw [hp] at j;cases j) (λ_ d x w' J i=>?_);rw [vh (by omega)] at i;rw [u] at i;exact K d x w' J i
    rename_i j;refine .inl ⟨_,_,_,_,I,λc A W e3 e9 ι0 w0 ι a w C m next Q K=>?_⟩;obtain ⟨D,args,tys⟩:=cl;simp only at q;subst q;rw [p] at A;have M:=A g (by simp [Op.operands,Call.operands]);have e5:=je (ρ:=opd s.T) (ρ':=opd c.T) (l:=args.toList) λx U=>A x (by simp only [Op.operands,Call.operands,qJ,mN];exact .inr U);refine uv p C (λb q1 q2=>m b q1 (by omega)) hd (by rw [M];exact hg) (by rw [e5];exact hl) (by rw [e9];exact G) (by rw [u];rfl) (h3 _ W) (λ_ d F w' J i=>?_) (λhp=>by rw [hp] at j;cases j);rw [vh (by omega)] at i;rw [u] at J i;exact K d F w' (λb Z=>J b rfl (by omega)) i
   ·cases h
  ·exact .inl (O h)
 ·rename_i x p;split at h
  ·rename_i t v U;refine .inr ⟨_,[],[],h,λc A W e3 e9 ι0 w0 ι a w C m next Q K=>?_⟩;rw [p] at A;have M:=A x (by simp [Op.operands]);have hv:=aP C.tmps (by rw [M];exact U);have hv':=hv;simp only [VR] at hv;obtain ⟨y,h6,_⟩:=hv;unfold Oper.wp;have N:(execOp a.eval o).run P w=.halt (.panic (.iface t y)) w:=by
    simp only [execOp,p,h6,Instr.panic,ak,run_goPanic,Result.andThen_halt]
   rw [N];exact K ι _ w (h6▸hv') C
  ·cases h
 ·exact .inl (O h)
end Go.Abs
