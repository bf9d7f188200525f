
/- An operation's effect hangs on what it looks at: the operations of the model.
   Conditions: none; generic over the program. -/
import Derived.Test.YthemneooekobkabGreatDoorAbsL
set_option linter.unusedVariables false
set_option linter.unusedSimpArgs false
namespace Go.Abs
variable {P:Program}
theorem nK {ρ ρ':Operand->Option V}:∀{l:List Operand},(∀x∈l,ρ' x=ρ x)->opds ρ' l=opds ρ l
 | [],_=>rfl
 | x::l,h=>by
  simp only [opds,h x (by simp),nK λy hy=>h y (fY _ hy)]
theorem qb {ρ ρ':Operand->Option V}:∀{l:List (Nat×Operand)},(∀x∈l,ρ' x.2=ρ x.2)->qg ρ' l=qg ρ l
 | [],_=>rfl
 | (i,x)::l,h=>by
  have a:ρ' x=ρ x:=h (i,x) (by simp);simp only [qg,a,qb λy hy=>h y (fY _ hy)]
theorem vE {ρ ρ':Operand->Option V} {x:Option Operand} (h:∀y,x=some y->ρ' y=ρ y):rr ρ' x=rr ρ x:=by
 cases x with
 | none=>rfl
 | some y=>simp only [rr,h y rfl]
theorem OB {α:Type} {n len:Nat} {h:Option Int} {c:Nat->Option α} {z:α} (a:hiK n len h c=some z):∃m,c m=some z:=by
 unfold hiK at a;split at a
 ·exact ⟨_,a⟩
 ·obtain ⟨m,_,b⟩:=av a;exact ⟨m,b⟩
theorem QF {α:Type} {n:Nat} {h:Option Int} {c:Nat->Option α} {z:α} (a:loK n h c=some z):∃m,c m=some z:=by
 unfold loK at a;split at a
 ·exact ⟨_,a⟩
 ·obtain ⟨m,_,b⟩:=av a;exact ⟨m,b⟩
theorem EQ {α:Type} {t:TypeId} {blk:Blk} {o:Nat} {v:V} {c:Blk->Option α} {z:α} (h:rA P t blk o v c=some z):∃b,c b=some z:=by
 have h':ob (rA P t blk o v some) c=some z:=(r7 t blk o v some c).symm.trans h;obtain ⟨b,_,a⟩:=av h';exact ⟨b,a⟩
theorem KI {H a:List (Nat×Blk)} {u:V} {m:Nat} {rd:List Nat} (h:slL H u=some (m,rd)) (d:∀b∈rd,look a b=look H b):slL a u=some (m,rd):=by
 unfold slL at h ⊢;split at h
 ·rename_i c;split at h
  case h_2=>cases h
  rename_i tr l e;simp only [au,ba] at h;obtain ⟨rfl,rfl⟩:=h;simp only [d c (by simp),e]
 ·exact h
 ·cases h
theorem I7 {ρ ρ':Operand->Option V} {H Q:List (Nat×Blk)} {f:Nat} {op:Op} {e:Eff} (h:effK P ρ H f op some=some e) (a:∀x∈op.operands.toList,ρ' x=ρ x)
  (B:∀b∈e.rd,look Q b=look H b):effK P ρ' Q f op some=some e:=by
 cases op with
 | load t x=>
  have hx:=a x (by simp [Op.operands]);simp only [effK,hx] at h ⊢;split at h
  ·rename_i b o hp;split at h
   ·rename_i blk g;have w:=h;rw [show (λv=>some ({ val:=some v,rd:=[b] }:Eff))=λv=>ob (some v) λv=>some ({ val:=some v,rd:=[b] }:Eff) from rfl,uz] at w;obtain ⟨v,_,A⟩:=av w;simp only [au] at A;have E:=B b (by rw [<-A];simp);simp only [E,g,h]
   ·cases h
  ·rename_i zz b j o hp;split at h
   case h_2=>cases h
   rename_i tr l g;split at h
   case h_2=>cases h
   rename_i C;obtain ⟨xr,N,w⟩:=av h;have h'':=w;rw [show (λv=>some ({ val:=some v,rd:=[b] }:Eff))=λv=>ob (some v) λv=>some ({ val:=some v,rd:=[b] }:Eff) from rfl,uz] at w;obtain ⟨v,_,A⟩:=av w;simp only [au] at A;have E:=B b (by rw [<-A];simp);simp only [E,g,C,N,m9,h'']
  ·cases h
 | makeSlice t x y=>simp only [effK,a x (by simp [Op.operands]),a y (by simp [Op.operands])] at h ⊢;exact h
 | store t x y=>
  have hx:=a x (by simp [Op.operands]);have hy:=a y (by simp [Op.operands]);simp only [effK,hx,hy] at h ⊢;split at h
  ·rename_i b o hp;obtain ⟨v,F,h⟩:=av h;split at h
   ·rename_i blk g;have w:=h;rw [show (λk=>some ({ val:=none,rd:=[b],wr:=some (b,k) }:Eff))=λk=>ob (some k) λk=>some ({ val:=none,rd:=[b],wr:=some (b,k) }:Eff) from rfl,r7] at w;obtain ⟨v',_,A⟩:=av w;simp only [au] at A;have E:=B b (by rw [<-A];simp);simp only [F,m9,E,g,h]
   ·cases h
  ·rename_i zz b j o hp;obtain ⟨v,F,w⟩:=av h;split at w
   case h_2=>cases w
   rename_i tr l g;split at w
   case h_2=>cases w
   rename_i C;obtain ⟨xr,N,J⟩:=av w;have A:=J;obtain ⟨k,I⟩:=EQ J;split at I
   case h_2=>cases I
   obtain ⟨x',_,R⟩:=av I;simp only [au] at R;have E:=B b (by rw [<-R];simp);simp only [F,m9,E,g,C,N,A]
  ·cases h
 | move x=>simp only [effK,a x (by simp [Op.operands])] at h ⊢;exact h
 | assign x=>simp only [effK,a x (by simp [Op.operands])] at h ⊢;exact h
 | pick c x y=>simp only [effK,a c (by simp [Op.operands]),a x (by simp [Op.operands]),a y (by simp [Op.operands])] at h ⊢;exact h
 | alloc t=>exact h
 | box t x=>simp only [effK,a x (by simp [Op.operands])] at h ⊢;exact h
 | build t W=>
  have:=qb (ρ:=ρ) (ρ':=ρ') (l:=W.toList) λx hx=>a x.2 (by simp only [Op.operands,eY];exact ⟨x,hx,rfl⟩);simp only [effK,this] at h ⊢;exact h
 | buildSlice t n W=>
  have:=qb (ρ:=ρ) (ρ':=ρ') (l:=W.toList) λx hx=>a x.2 (by simp only [Op.operands,eY];exact ⟨x,hx,rfl⟩);simp only [effK,this] at h ⊢;exact h
 | nilCheck x=>simp only [effK,a x (by simp [Op.operands])] at h ⊢;exact h
 | binOp o t x y yt=>
  simp only [effK,a x (by simp [Op.operands]),a y (by simp [Op.operands])] at h ⊢;obtain ⟨u,K,h⟩:=av h;obtain ⟨v,F,h⟩:=av h;rw [K,F];simp only [m9];split at h
  ·exact h
  ·split at h
   ·split at h
    case h_2=>cases h
    rename_i m rd Z;obtain ⟨T,h⟩:=dY h;have U:=KI Z λb g=>B b (by rw [<-bm h];exact g);rw [U];simp only [T,ah];exact h
   ·exact h
 | unOp o t x=>simp only [effK,a x (by simp [Op.operands])] at h ⊢;exact h
 | convert s d x=>
  simp only [effK,a x (by simp [Op.operands])] at h ⊢;obtain ⟨v,F,q⟩:=av h;rw [F];simp only [m9];have key:∀b,e.rd=[b]->look Q b=look H b:=λb he=>B b (by rw [he];simp);cases v<;>try exact q
  ·rename_i b;split at q
   case h_2=>cases q
   split at q
   ·cases q
   ·simp only at q ⊢;split at q
    case h_2=>cases q
    split at q
    case h_2=>cases q
    split at q
    case h_2=>cases q
    rename_i g;have D:=q;simp only [au] at D;rw [key b (by rw [<-D]),g];exact q
   ·split at q<;>cases q
   ·cases q
  ·rename_i zz b j n _;split at q
   case h_2=>cases q
   split at q
   ·cases q
   ·simp only at q ⊢;split at q
    case h_2=>cases q
    split at q
    case h_2=>cases q
    split at q
    case h_2=>cases q
    rename_i g;split at q
    case h_2=>cases q
    rename_i C;obtain ⟨hc,D⟩:=dY q;simp only [au] at D;rw [key b (by rw [<-D]),g];simp only [C];exact q
   ·split at q<;>cases q
   ·cases q
  ·rename_i b o m cap;split at q
   case h_2=>cases q
   split at q
   ·cases q
   ·simp only at q ⊢;split at q
    case h_2=>cases q
    split at q
    case h_2=>cases q
    split at q
    case h_2=>cases q
    rename_i g;obtain ⟨hc,D⟩:=dY q;simp only [au] at D;rw [key b (by rw [<-D]),g];exact q
   ·split at q<;>cases q
   ·cases q
 | next x str=>
  have hx:=a x (by simp [Op.operands]);simp only [effK,hx] at h ⊢;split at h
  case h_2=>cases h
  rename_i b hp;split at h
  case h_2=>cases h
  rename_i l pos g;have E:look Q b=look H b:=B b (by
   cases hc:Nat.blt pos l.length<;>rw [hc] at h<;>simp only [ah,af,au] at h<;>rw [<-h]<;>simp)
  simp only [E,g];exact h
 | makeInterface t x=>simp only [effK,a x (by simp [Op.operands])] at h ⊢;exact h
 | makeFunc fn first cap=>
  have:=nK (ρ:=ρ) (ρ':=ρ') (l:=cap.toList) λx hx=>a x (by simp only [Op.operands,xE,nO];exact .inr hx);have A:=nK (ρ:=ρ) (ρ':=ρ') (l:=first.toList) λx hx=>a x (by simp only [Op.operands,xE,nO];exact .inl hx);simp only [effK,this,A] at h ⊢;exact h
 | slice t x lo hi mx=>
  have J:=a x (by simp [Op.operands]);have A:=vE (ρ:=ρ) (ρ':=ρ') (x:=lo) λy hy=>a y (by simp [Op.operands,hy]);have I:=vE (ρ:=ρ) (ρ':=ρ') (x:=hi) λy hy=>a y (by simp [Op.operands,hy]);simp only [effK,J,A,I] at h ⊢;cases mx with
  | some m=>
   simp only at h ⊢;have R:=a m (by simp [Op.operands]);cases lo with
   | some _=>exact h
   | none=>
   cases hi with
   | none=>exact h
   | some F=>
   have h5:=a F (by simp [Op.operands]);simp only [va,J,R,h5] at h ⊢;obtain ⟨u,K,r⟩:=av h;simp only [K,m9];clear h;split at r
   case h_2=>cases r
   split at r
   case h_2=>cases r
   split at r
   case h_2=>cases r
   split at r
   ·rename_i b;split at r
    case h_2=>cases r
    rename_i tr l g;split at r
    case h_2=>cases r
    rename_i C;obtain ⟨M,hM,O⟩:=av r;obtain ⟨L,hL,z⟩:=av O;have S:=z;simp only [au] at S;simp only [B b (by rw [<-S];simp),g,C,hM,hL,m9,z]
   ·exact r
   ·exact r
   ·cases r
  | none=>
  simp only at h ⊢;obtain ⟨u,K,r⟩:=av h;obtain ⟨l,Z,O⟩:=av r;obtain ⟨hh,X,z⟩:=av O;simp only [K,Z,X,m9];clear h r O;split at z
  ·exact z
  ·exact z
  ·split at z
   case h_2=>cases z
   cases u<;>try exact z
   case sl=>rename_i cap;cases cap<;>exact z
   rename_i b;simp only at z ⊢;split at z
   case h_2=>cases z
   rename_i tr m g;split at z
   case h_2=>cases z
   rename_i C;obtain ⟨H1,S⟩:=OB z;obtain ⟨L1,q5⟩:=QF S;simp only [au] at q5;rw [B b (by rw [<-q5];simp),g];simp only [C];exact z
  ·cases z
 | makeMap t x=>exact h
 | insert t m x y=>
  simp only [effK,a m (by simp [Op.operands]),a x (by simp [Op.operands]),a y (by simp [Op.operands])] at h ⊢;split at h
  case h_2=>cases h
  rename_i b T;split at h
  case h_2=>cases h
  split at h
  case h_2=>cases h
  split at h
  case h_2=>cases h
  split at h
  case h_2=>cases h
  rename_i k1 l g;split at h
  case h_2=>cases h
  rename_i G;rw [B b (by rw [<-bm h];simp),g];simp only [G];exact h
 | lookup t m x ok=>
  simp only [effK,a m (by simp [Op.operands]),a x (by simp [Op.operands])] at h ⊢;split at h
  case h_2=>cases h
  rename_i b T;split at h
  case h_2=>cases h
  split at h
  case h_2=>cases h
  split at h
  case h_2=>cases h
  split at h
  case h_2=>cases h
  rename_i k1 l g;split at h
  case h_2=>cases h
  rename_i G;have Y:e.rd=[b]:=by
   clear g;revert h;generalize l=l'
   induction l' with
   | nil=>intro h;cases h
   | cons p l ih=>
    intro h;simp only [mapK] at h;revert h;cases (_==p.1) with
    | true=>intro h;rw [<-bm h]
    | false=>exact ih
  rw [B b (by rw [Y];simp),g];simp only [G];exact h
 | fieldAddr t x i=>simp only [effK,a x (by simp [Op.operands])] at h ⊢;exact h
 | field t x i=>simp only [effK,a x (by simp [Op.operands])] at h ⊢;exact h
 | indexAddr t x i=>
  simp only [effK,a x (by simp [Op.operands]),a i (by simp [Op.operands])] at h ⊢;split at h
  case h_2=>cases h
  split at h
  ·exact h
  ·split at h
   ·rename_i hx;first | exact h | (simp only [hx];exact h)
   ·rename_i b hx;split at h
    case h_2=>cases h
    rename_i tr l g;split at h
    case h_2=>cases h
    rename_i C;obtain ⟨j,N,w⟩:=av h;have A:=w;simp only [au] at A;simp only [hx,B b (by rw [<-A];simp),g,C,N,m9,w]
   ·rename_i hx;first | exact h | (simp only [hx];exact h)
   ·cases h
  ·cases h
 | index t x i=>simp only [effK,a x (by simp [Op.operands]),a i (by simp [Op.operands])] at h ⊢;exact h
 | range t x=>simp only [effK,a x (by simp [Op.operands])] at h ⊢;exact h
 | typeAssert x xt at_ ok=>simp only [effK,a x (by simp [Op.operands])] at h ⊢;exact h
 | extract x i=>simp only [effK,a x (by simp [Op.operands])] at h ⊢;exact h
 | call cl=>
  have:=nK (ρ:=ρ) (ρ':=ρ') (l:=cl.args.toList) λx hx=>a x (by simp only [Op.operands,Call.operands,xE,nO];exact .inr hx);simp only [effK,this] at h ⊢;split at h
  case h_2=>cases h
  obtain ⟨args,ha,q⟩:=av h;simp only [ha,m9];split at q
  ·split at q
   ·exact q
   ·exact q
   ·exact q
   ·rename_i b;split at q
    case h_2=>cases q
    split at q
    case h_2=>cases q
    split at q
    case h_2=>cases q
    rename_i g;have D:=q;simp only [au] at D;simp only [B b (by rw [<-D];simp),g, *]
   ·exact q
   ·rename_i x n1 n2 n3 n4 n5;cases x<;>first | exact q | exact absurd rfl (n1 _) | exact absurd rfl (n2 _ _ _ _) | exact absurd rfl n3 | exact absurd rfl (n4 _) | exact absurd rfl (n5 _ _ _ _ _)
   ·cases q
  ·exact q
  ·exact q
  ·exact q
  ·cases q
 | _=>simp [effK] at h
theorem L0 {α:Type} {ρ:Operand->Option V} {H:List (Nat×Blk)} {f:Nat} {op:Op} {c:Eff->Option α} {z:α} (h:effK P ρ H f op c=some z):
  ∃e,effK P ρ H f op some=some e/\c e=some z:=by
 have h':ob (effK P ρ H f op some) c=some z:=(OX ρ H f op some c).symm.trans h;exact av h'
theorem D1 {a b:Nat} (h:b<=a):max a b=a:=Nat.max_eq_left h
theorem C4 {α:Type} {E:List Ent} (hE:∀x∈E,f9 P x) {n fr:Nat} {s:St} {o:Oper} (hnb:fr+8<=s.nb) {k:St->List Nat->List (Nat×Blk)->Nat->Option α} {kp:V->St->Option α} {z:α}
  (h:Dl P E n fr o s k kp=some z):
  (∃val wr rd g,k (s.app o.dst val wr s.nb) rd wr g=some z/\∀s':St,(∀x∈o.op.operands.toList,opd s'.T x=opd s.T x)->(∀b∈rd,look s'.H b=look s.H b)->s'.nb=s.nb->s'.ro=s.ro->
   ∀(ι0:Inj) (w0:Base) (ι:Inj) (a:Act) (w:World),Inv n ι0 w0 ι s' a w->(∀b,fr<=b->b<fr+8->ι b=none)->∀(next:Act->World->Prop) (Q:Exit->Act->World->Prop),
    (∀c C w',(∀b,(b<fr\/fr+8<=b)->c b=ι b)->Inv n ι0 w0 c (s'.app o.dst val wr s'.nb) C w'->next C w')->o.wp P a w next Q)\/
  (∃(v:V) (wr:List (Nat×Blk)) (rd:List Nat),kp v (s.app none none wr s.nb)=some z/\∀s':St,(∀x∈o.op.operands.toList,opd s'.T x=opd s.T x)->(∀b∈rd,look s'.H b=look s.H b)->s'.nb=s.nb->s'.ro=s.ro->
   ∀(ι0:Inj) (w0:Base) (ι:Inj) (a:Act) (w:World),Inv n ι0 w0 ι s' a w->(∀b,fr<=b->b<fr+8->ι b=none)->∀(next:Act->World->Prop) (Q:Exit->Act->World->Prop),
    (∀c x w',VR c v x->Inv n ι0 w0 c (s'.app none none wr s'.nb) a w'->Q (.panic [{ v:=x,recovered:=false }]) a w')->o.wp P a w next Q):=by
 unfold Dl at h;split at h
 ·cases h
 rename_i hd;have M:uK P fr o s k=some z->∃val wr rd g,k (s.app o.dst val wr s.nb) rd wr g=some z/\∀s':St,(∀x∈o.op.operands.toList,opd s'.T x=opd s.T x)->(∀b∈rd,look s'.H b=look s.H b)->s'.nb=s.nb->s'.ro=s.ro->
   ∀(ι0:Inj) (w0:Base) (ι:Inj) (a:Act) (w:World),Inv n ι0 w0 ι s' a w->(∀b,fr<=b->b<fr+8->ι b=none)->∀(next:Act->World->Prop) (Q:Exit->Act->World->Prop),
    (∀c C w',(∀b,(b<fr\/fr+8<=b)->c b=ι b)->Inv n ι0 w0 c (s'.app o.dst val wr s'.nb) C w'->next C w')->o.wp P a w next Q:=by
  intro h;unfold uK at h;obtain ⟨e,he,L⟩:=L0 h;split at L;rename_i v wr g hne;split at L
  case h_2=>cases L
  rename_i Z;simp only [aA] at Z;have hg8:=aJ Z.2;have S:nbOf s.nb fr g=s.nb:=by
   cases g with
   | zero=>rfl
   | succ g=>exact D1 (by omega)
  rw [S] at L;refine ⟨v,wr,e.rd,g,L,λs' h1 G h3 hro ι0 w0 ι a w B j next Q K=>?_⟩;have hf:=j fr (aY _) (by omega);have he':=I7 he h1 G;obtain ⟨e',h4,N⟩:=JJ B.tmps B.mem hf he';simp only [au] at h4;subst h4;refine GM B hf hd N (λJ bb hw=>by
   have:=Z.1;unfold roOK at this;rw [hw] at this;simp only [J] at this;rw [hro];exact aJ this) λc C w' I g2 d=>?_
  obtain ⟨ι2,k1,k2⟩:=DJ hne d (λb u R X=>by
   by_cases O:b=fr
   ·subst O;rw [g2 (.inr (X rfl))];exact hf
   ·rw [I b O];exact j b u (by omega)) (λbb hw J=>gO.new_eq N hw J) (nb:=s'.nb) (by
    split
    ·rw [D1 (by omega)];exact aY _
    ·exact aY _) (by omega)
  exact K ι2 C w' (λb hb'=>by rw [k1 b (by omega)];exact I b (by omega)) k2
 split at h
 ·rename_i cl m;split at h
  ·rename_i g p;split at h
   ·rename_i f cap hg;obtain ⟨l,hl,h⟩:=av h;obtain ⟨r,G,h3⟩:=wm hE h;split at G
    ·cases G
    rename_i A;simp only [aA] at A;obtain ⟨A,F,q⟩:=A;have q:r.kill=[]:=by simpa using q
    have A:=aJ A;rw [D1 (by omega)] at G;split at G
    ·rename_i i;refine .inr ⟨_,_,r.rd,G,λs' u R X Y ι0 w0 ι a w B j next Q K=>?_⟩;obtain ⟨D,args,tys⟩:=cl;simp only at p;subst p;rw [m] at u;have W:=u g (by simp [Op.operands,Call.operands]);have e5:=nK (ρ:=opd s.T) (ρ':=opd s'.T) (l:=args.toList) λx hx=>u x (by simp only [Op.operands,Call.operands,xE,nO];exact .inr hx);refine BJ m B (λb q1 q2=>j b q1 (by omega)) hd (by rw [W];exact hg) (by rw [e5];exact hl) (by rw [Y];exact F) (by rw [q];rfl) (h3 _ R) (λhp=>by rw [hp] at i;cases i) (λ_ c x w' I d=>?_);rw [D1 (by omega)] at d;rw [q] at d;exact K c x w' I d
    rename_i i;refine .inl ⟨_,_,_,_,G,λs' u R X Y ι0 w0 ι a w B j next Q K=>?_⟩;obtain ⟨D,args,tys⟩:=cl;simp only at p;subst p;rw [m] at u;have W:=u g (by simp [Op.operands,Call.operands]);have e5:=nK (ρ:=opd s.T) (ρ':=opd s'.T) (l:=args.toList) λx hx=>u x (by simp only [Op.operands,Call.operands,xE,nO];exact .inr hx);refine BJ m B (λb q1 q2=>j b q1 (by omega)) hd (by rw [W];exact hg) (by rw [e5];exact hl) (by rw [Y];exact F) (by rw [q];rfl) (h3 _ R) (λ_ c C w' I d=>?_) (λhp=>by rw [hp] at i;cases i);rw [D1 (by omega)] at d;rw [q] at I d;exact K c C w' (λb Z=>I b rfl (by omega)) d
   ·cases h
  ·exact .inl (M h)
 ·rename_i x m;split at h
  ·rename_i t v hx;refine .inr ⟨_,[],[],h,λs' u R X Y ι0 w0 ι a w B j next Q K=>?_⟩;rw [m] at u;have W:=u x (by simp [Op.operands]);have hv:=bA B.tmps (by rw [W];exact hx);have hv':=hv;simp only [VR] at hv;obtain ⟨y,h6,_⟩:=hv;unfold Oper.wp;have U:(execOp a.eval o).run P w=.halt (.panic (.iface t y)) w:=by
    simp only [execOp,m,h6,Instr.panic,aw,run_goPanic,Result.andThen_halt]
   rw [U];exact K ι _ w (h6▸hv') B
  ·cases h
 ·exact .inl (M h)
end Go.Abs
