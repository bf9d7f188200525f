
/- An operation's effect hangs on what it looks at: the operations of the model.
   Conditions: none; generic over the program. -/
import Derived.Test.YthemneooekobkaaGreatDoorAbsL
set_option linter.unusedVariables false
set_option linter.unusedSimpArgs false
namespace Go.Abs
variable {P:Program}
theorem lW {ρ ρ':Operand->Option V}:∀{l:List Operand},(∀x∈l,ρ' x=ρ x)->opds ρ' l=opds ρ l
 | [],_=>rfl
 | x::l,h=>by
  simp only [opds,h x (by simp),lW λy hy=>h y (gP _ hy)]
theorem nG {ρ ρ':Operand->Option V}:∀{l:List (Nat×Operand)},(∀x∈l,ρ' x.2=ρ x.2)->nN ρ' l=nN ρ l
 | [],_=>rfl
 | (i,x)::l,h=>by
  have a:ρ' x=ρ x:=h (i,x) (by simp);simp only [nN,a,nG λy hy=>h y (gP _ hy)]
theorem sW {ρ ρ':Operand->Option V} {x:Option Operand} (h:∀y,x=some y->ρ' y=ρ y):o5 ρ' x=o5 ρ x:=by
 cases x with
 | none=>rfl
 | some y=>simp only [o5,h y rfl]
theorem Kz {α:Type} {n len:Nat} {h:Option Int} {c:Nat->Option α} {z:α} (a:hiK n len h c=some z):∃m,c m=some z:=by
 unfold hiK at a;split at a
 ·exact ⟨_,a⟩
 ·obtain ⟨m,_,b⟩:=au a;exact ⟨m,b⟩
theorem K6 {α:Type} {n:Nat} {h:Option Int} {c:Nat->Option α} {z:α} (a:loK n h c=some z):∃m,c m=some z:=by
 unfold loK at a;split at a
 ·exact ⟨_,a⟩
 ·obtain ⟨m,_,b⟩:=au a;exact ⟨m,b⟩
theorem CJ {α:Type} {t:TypeId} {blk:Blk} {o:Nat} {v:V} {c:Blk->Option α} {z:α} (h:o9 P t blk o v c=some z):∃b,c b=some z:=by
 have h':ob (o9 P t blk o v some) c=some z:=(pB t blk o v some c).symm.trans h;obtain ⟨b,_,a⟩:=au h';exact ⟨b,a⟩
theorem GE {H a:List (Nat×Blk)} {u:V} {m:Nat} {rd:List Nat} (h:slL H u=some (m,rd)) (d:∀b∈rd,look a b=look H b):slL a u=some (m,rd):=by
 unfold slL at h ⊢;split at h
 ·rename_i c;split at h
  case h_2=>cases h
  rename_i tr l e;simp only [am,cZ] at h;obtain ⟨rfl,rfl⟩:=h;simp only [d c (by simp),e]
 ·exact h
 ·cases h
theorem Fz {ρ ρ':Operand->Option V} {H R:List (Nat×Blk)} {f:Nat} {op:Op} {e:Eff} (h:effK P ρ H f op some=some e) (a:∀x∈op.operands.toList,ρ' x=ρ x)
  (B:∀b∈e.rd,look R b=look H b):effK P ρ' R f op some=some e:=by
 cases op with
 | load t x=>
  have hx:=a x (by simp [Op.operands]);simp only [effK,hx] at h ⊢;split at h
  ·rename_i b o hp;split at h
   ·rename_i blk g;have w:=h;rw [show (λv=>some ({ val:=some v,rd:=[b] }:Eff))=λv=>ob (some v) λv=>some ({ val:=some v,rd:=[b] }:Eff) from rfl,rR] at w;obtain ⟨v,_,A⟩:=au w;simp only [am] at A;have F:=B b (by rw [<-A];simp);simp only [F,g,h]
   ·cases h
  ·rename_i zz b j o hp;split at h
   case h_2=>cases h
   rename_i tr l g;split at h
   case h_2=>cases h
   rename_i D;obtain ⟨xr,J,w⟩:=au h;have h'':=w;rw [show (λv=>some ({ val:=some v,rd:=[b] }:Eff))=λv=>ob (some v) λv=>some ({ val:=some v,rd:=[b] }:Eff) from rfl,rR] at w;obtain ⟨v,_,A⟩:=au w;simp only [am] at A;have F:=B b (by rw [<-A];simp);simp only [F,g,D,J,ly,h'']
  ·cases h
 | makeSlice t x y=>simp only [effK,a x (by simp [Op.operands]),a y (by simp [Op.operands])] at h ⊢;exact h
 | store t x y=>
  have hx:=a x (by simp [Op.operands]);have hy:=a y (by simp [Op.operands]);simp only [effK,hx,hy] at h ⊢;split at h
  ·rename_i b o hp;obtain ⟨v,E,h⟩:=au h;split at h
   ·rename_i blk g;have w:=h;rw [show (λk=>some ({ val:=none,rd:=[b],wr:=some (b,k) }:Eff))=λk=>ob (some k) λk=>some ({ val:=none,rd:=[b],wr:=some (b,k) }:Eff) from rfl,pB] at w;obtain ⟨v',_,A⟩:=au w;simp only [am] at A;have F:=B b (by rw [<-A];simp);simp only [E,ly,F,g,h]
   ·cases h
  ·rename_i zz b j o hp;obtain ⟨v,E,w⟩:=au h;split at w
   case h_2=>cases w
   rename_i tr l g;split at w
   case h_2=>cases w
   rename_i D;obtain ⟨xr,J,N⟩:=au w;have A:=N;obtain ⟨k,I⟩:=CJ N;split at I
   case h_2=>cases I
   obtain ⟨x',_,Q⟩:=au I;simp only [am] at Q;have F:=B b (by rw [<-Q];simp);simp only [E,ly,F,g,D,J,A]
  ·cases h
 | move x=>simp only [effK,a x (by simp [Op.operands])] at h ⊢;exact h
 | assign x=>simp only [effK,a x (by simp [Op.operands])] at h ⊢;exact h
 | pick c x y=>simp only [effK,a c (by simp [Op.operands]),a x (by simp [Op.operands]),a y (by simp [Op.operands])] at h ⊢;exact h
 | alloc t=>exact h
 | box t x=>simp only [effK,a x (by simp [Op.operands])] at h ⊢;exact h
 | build t W=>
  have:=nG (ρ:=ρ) (ρ':=ρ') (l:=W.toList) λx hx=>a x.2 (by simp only [Op.operands,dr];exact ⟨x,hx,rfl⟩);simp only [effK,this] at h ⊢;exact h
 | buildSlice t n W=>
  have:=nG (ρ:=ρ) (ρ':=ρ') (l:=W.toList) λx hx=>a x.2 (by simp only [Op.operands,dr];exact ⟨x,hx,rfl⟩);simp only [effK,this] at h ⊢;exact h
 | nilCheck x=>simp only [effK,a x (by simp [Op.operands])] at h ⊢;exact h
 | binOp o t x y yt=>
  simp only [effK,a x (by simp [Op.operands]),a y (by simp [Op.operands])] at h ⊢;obtain ⟨u,K,h⟩:=au h;obtain ⟨v,E,h⟩:=au h;rw [K,E];simp only [ly];split at h
  ·exact h
  ·split at h
   ·split at h
    case h_2=>cases h
    rename_i m rd U;obtain ⟨Z,h⟩:=dk h;have Y:=GE U λb g=>B b (by rw [<-bc h];exact g);rw [Y];simp only [Z,aj];exact h
   ·exact h
 | unOp o t x=>simp only [effK,a x (by simp [Op.operands])] at h ⊢;exact h
 | convert s d x=>
  simp only [effK,a x (by simp [Op.operands])] at h ⊢;obtain ⟨v,E,q⟩:=au h;rw [E];simp only [ly];have key:∀b,e.rd=[b]->look R b=look H b:=λb he=>B b (by rw [he];simp);cases v<;>try exact q
  ·rename_i b;split at q
   case h_2=>cases q
   split at q
   ·cases q
   ·simp only at q ⊢;split at q
    case h_2=>cases q
    split at q
    case h_2=>cases q
    split at q
    case h_2=>cases q
    rename_i g;have C:=q;simp only [am] at C;rw [key b (by rw [<-C]),g];exact q
   ·split at q<;>cases q
   ·cases q
  ·rename_i zz b j n _;split at q
   case h_2=>cases q
   split at q
   ·cases q
   ·simp only at q ⊢;split at q
    case h_2=>cases q
    split at q
    case h_2=>cases q
    split at q
    case h_2=>cases q
    rename_i g;split at q
    case h_2=>cases q
    rename_i D;obtain ⟨hc,C⟩:=dk q;simp only [am] at C;rw [key b (by rw [<-C]),g];simp only [D];exact q
   ·split at q<;>cases q
   ·cases q
  ·rename_i b o m cap;split at q
   case h_2=>cases q
   split at q
   ·cases q
   ·simp only at q ⊢;split at q
    case h_2=>cases q
    split at q
    case h_2=>cases q
    split at q
    case h_2=>cases q
    rename_i g;obtain ⟨hc,C⟩:=dk q;simp only [am] at C;rw [key b (by rw [<-C]),g];exact q
   ·split at q<;>cases q
   ·cases q
 | next x str=>
  have hx:=a x (by simp [Op.operands]);simp only [effK,hx] at h ⊢;split at h
  case h_2=>cases h
  rename_i b hp;split at h
  case h_2=>cases h
  rename_i l pos g;have F:look R b=look H b:=B b (by
   cases hc:Nat.blt pos l.length<;>rw [hc] at h<;>simp only [aj,ae,am] at h<;>rw [<-h]<;>simp)
  simp only [F,g];exact h
 | makeInterface t x=>simp only [effK,a x (by simp [Op.operands])] at h ⊢;exact h
 | makeFunc fn first cap=>
  have:=lW (ρ:=ρ) (ρ':=ρ') (l:=cap.toList) λx hx=>a x (by simp only [Op.operands,vK,kA];exact .inr hx);have A:=lW (ρ:=ρ) (ρ':=ρ') (l:=first.toList) λx hx=>a x (by simp only [Op.operands,vK,kA];exact .inl hx);simp only [effK,this,A] at h ⊢;exact h
 | slice t x lo hi mx=>
  have N:=a x (by simp [Op.operands]);have A:=sW (ρ:=ρ) (ρ':=ρ') (x:=lo) λy hy=>a y (by simp [Op.operands,hy]);have I:=sW (ρ:=ρ) (ρ':=ρ') (x:=hi) λy hy=>a y (by simp [Op.operands,hy]);simp only [effK,N,A,I] at h ⊢;cases mx with
  | some m=>
   simp only at h ⊢;have Q:=a m (by simp [Op.operands]);cases lo with
   | some _=>exact h
   | none=>
   cases hi with
   | none=>exact h
   | some E=>
   have h5:=a E (by simp [Op.operands]);simp only [sg,N,Q,h5] at h ⊢;obtain ⟨u,K,z⟩:=au h;simp only [K,ly];clear h;split at z
   case h_2=>cases z
   split at z
   case h_2=>cases z
   split at z
   case h_2=>cases z
   split at z
   ·rename_i b;split at z
    case h_2=>cases z
    rename_i tr l g;split at z
    case h_2=>cases z
    rename_i D;obtain ⟨M,hM,O⟩:=au z;obtain ⟨L,hL,r⟩:=au O;have S:=r;simp only [am] at S;simp only [B b (by rw [<-S];simp),g,D,hM,hL,ly,r]
   ·exact z
   ·exact z
   ·cases z
  | none=>
  simp only at h ⊢;obtain ⟨u,K,z⟩:=au h;obtain ⟨l,U,O⟩:=au z;obtain ⟨hh,X,r⟩:=au O;simp only [K,U,X,ly];clear h z O;split at r
  ·exact r
  ·exact r
  ·split at r
   case h_2=>cases r
   cases u<;>try exact r
   case sl=>rename_i cap;cases cap<;>exact r
   rename_i b;simp only at r ⊢;split at r
   case h_2=>cases r
   rename_i tr m g;split at r
   case h_2=>cases r
   rename_i D;obtain ⟨H1,S⟩:=Kz r;obtain ⟨L1,q5⟩:=K6 S;simp only [am] at q5;rw [B b (by rw [<-q5];simp),g];simp only [D];exact r
  ·cases r
 | makeMap t x=>exact h
 | insert t m x y=>
  simp only [effK,a m (by simp [Op.operands]),a x (by simp [Op.operands]),a y (by simp [Op.operands])] at h ⊢;split at h
  case h_2=>cases h
  rename_i b Z;split at h
  case h_2=>cases h
  split at h
  case h_2=>cases h
  split at h
  case h_2=>cases h
  split at h
  case h_2=>cases h
  rename_i k1 l g;split at h
  case h_2=>cases h
  rename_i G;rw [B b (by rw [<-bc h];simp),g];simp only [G];exact h
 | lookup t m x ok=>
  simp only [effK,a m (by simp [Op.operands]),a x (by simp [Op.operands])] at h ⊢;split at h
  case h_2=>cases h
  rename_i b Z;split at h
  case h_2=>cases h
  split at h
  case h_2=>cases h
  split at h
  case h_2=>cases h
  split at h
  case h_2=>cases h
  rename_i k1 l g;split at h
  case h_2=>cases h
  rename_i G;have T:e.rd=[b]:=by
   clear g;revert h;generalize l=l'
   induction l' with
   | nil=>intro h;cases h
   | cons p l ih=>
    intro h;simp only [mapK] at h;revert h;cases (_==p.1) with
    | true=>intro h;rw [<-bc h]
    | false=>exact ih
  rw [B b (by rw [T];simp),g];simp only [G];exact h
 | fieldAddr t x i=>simp only [effK,a x (by simp [Op.operands])] at h ⊢;exact h
 | field t x i=>simp only [effK,a x (by simp [Op.operands])] at h ⊢;exact h
 | indexAddr t x i=>
  simp only [effK,a x (by simp [Op.operands]),a i (by simp [Op.operands])] at h ⊢;split at h
  case h_2=>cases h
  split at h
  ·exact h
  ·split at h
   ·rename_i hx;first | exact h | (simp only [hx];exact h)
   ·rename_i b hx;split at h
    case h_2=>cases h
    rename_i tr l g;split at h
    case h_2=>cases h
    rename_i D;obtain ⟨j,J,w⟩:=au h;have A:=w;simp only [am] at A;simp only [hx,B b (by rw [<-A];simp),g,D,J,ly,w]
   ·rename_i hx;first | exact h | (simp only [hx];exact h)
   ·cases h
  ·cases h
 | index t x i=>simp only [effK,a x (by simp [Op.operands]),a i (by simp [Op.operands])] at h ⊢;exact h
 | range t x=>simp only [effK,a x (by simp [Op.operands])] at h ⊢;exact h
 | typeAssert x xt at_ ok=>simp only [effK,a x (by simp [Op.operands])] at h ⊢;exact h
 | extract x i=>simp only [effK,a x (by simp [Op.operands])] at h ⊢;exact h
 | call cl=>
  have:=lW (ρ:=ρ) (ρ':=ρ') (l:=cl.args.toList) λx hx=>a x (by simp only [Op.operands,Call.operands,vK,kA];exact .inr hx);simp only [effK,this] at h ⊢;split at h
  case h_2=>cases h
  obtain ⟨args,ha,q⟩:=au h;simp only [ha,ly];split at q
  ·split at q
   ·exact q
   ·exact q
   ·exact q
   ·rename_i b;split at q
    case h_2=>cases q
    split at q
    case h_2=>cases q
    split at q
    case h_2=>cases q
    rename_i g;have C:=q;simp only [am] at C;simp only [B b (by rw [<-C];simp),g, *]
   ·exact q
   ·rename_i x n1 n2 n3 n4 n5;cases x<;>first | exact q | exact absurd rfl (n1 _) | exact absurd rfl (n2 _ _ _ _) | exact absurd rfl n3 | exact absurd rfl (n4 _) | exact absurd rfl (n5 _ _ _ _ _)
   ·cases q
  ·exact q
  ·exact q
  ·exact q
  ·cases q
 | _=>simp [effK] at h
theorem HG {α:Type} {ρ:Operand->Option V} {H:List (Nat×Blk)} {f:Nat} {op:Op} {c:Eff->Option α} {z:α} (h:effK P ρ H f op c=some z):
  ∃e,effK P ρ H f op some=some e/\c e=some z:=by
 have h':ob (effK P ρ H f op some) c=some z:=(Kr ρ H f op some c).symm.trans h;exact au h'
theorem zy {a b:Nat} (h:b<=a):max a b=a:=Nat.max_eq_left h
theorem AW {α:Type} {E:List Ent} (hE:∀x∈E,ek P x) {n fr:Nat} {s:St} {o:Oper} (hnb:fr+8<=s.nb) {k:St->List Nat->List (Nat×Blk)->Nat->Option α} {kp:V->St->Option α} {z:α}
  (h:Am P E n fr o s k kp=some z):
  (∃val wr rd g,k (s.app o.dst val wr s.nb) rd wr g=some z/\∀c:St,(∀x∈o.op.operands.toList,opd c.T x=opd s.T x)->(∀b∈rd,look c.H b=look s.H b)->c.nb=s.nb->c.ro=s.ro->
   ∀(ι0:Inj) (w0:Base) (ι:Inj) (a:Act) (w:World),Inv n ι0 w0 ι c a w->(∀b,fr<=b->b<fr+8->ι b=none)->∀(next:Act->World->Prop) (Q:Exit->Act->World->Prop),
    (∀d D w',(∀b,(b<fr\/fr+8<=b)->d b=ι b)->Inv n ι0 w0 d (c.app o.dst val wr c.nb) D w'->next D w')->o.wp P a w next Q)\/
  (∃(v:V) (wr:List (Nat×Blk)) (rd:List Nat),kp v (s.app none none wr s.nb)=some z/\∀c:St,(∀x∈o.op.operands.toList,opd c.T x=opd s.T x)->(∀b∈rd,look c.H b=look s.H b)->c.nb=s.nb->c.ro=s.ro->
   ∀(ι0:Inj) (w0:Base) (ι:Inj) (a:Act) (w:World),Inv n ι0 w0 ι c a w->(∀b,fr<=b->b<fr+8->ι b=none)->∀(next:Act->World->Prop) (Q:Exit->Act->World->Prop),
    (∀d x w',VR d v x->Inv n ι0 w0 d (c.app none none wr c.nb) a w'->Q (.panic [{ v:=x,recovered:=false }]) a w')->o.wp P a w next Q):=by
 unfold Am at h;split at h
 ·cases h
 rename_i hd;have U:sI P fr o s k=some z->∃val wr rd g,k (s.app o.dst val wr s.nb) rd wr g=some z/\∀c:St,(∀x∈o.op.operands.toList,opd c.T x=opd s.T x)->(∀b∈rd,look c.H b=look s.H b)->c.nb=s.nb->c.ro=s.ro->
   ∀(ι0:Inj) (w0:Base) (ι:Inj) (a:Act) (w:World),Inv n ι0 w0 ι c a w->(∀b,fr<=b->b<fr+8->ι b=none)->∀(next:Act->World->Prop) (Q:Exit->Act->World->Prop),
    (∀d D w',(∀b,(b<fr\/fr+8<=b)->d b=ι b)->Inv n ι0 w0 d (c.app o.dst val wr c.nb) D w'->next D w')->o.wp P a w next Q:=by
  intro h;unfold sI at h;obtain ⟨e,he,X⟩:=HG h;split at X;rename_i v wr g hne;split at X
  case h_2=>cases X
  rename_i Y;simp only [ay] at Y;have hg8:=aD Y.2;have W:nbOf s.nb fr g=s.nb:=by
   cases g with
   | zero=>rfl
   | succ g=>exact zy (by omega)
  rw [W] at X;refine ⟨v,wr,e.rd,g,X,λc h1 I h3 hro ι0 w0 ι a w C m next Q K=>?_⟩;have hf:=m fr (aW _) (by omega);have he':=Fz he h1 I;obtain ⟨e',h4,S⟩:=HY C.tmps C.mem hf he';simp only [am] at h4;subst h4;refine ET C hf hd S (λL bb hw=>by
   have:=Y.1;unfold roOK at this;rw [hw] at this;simp only [L] at this;rw [hro];exact aD this) λd D w' J g2 i=>?_
  obtain ⟨ι2,k1,k2⟩:=Af hne i (λb A O e3=>by
   by_cases N:b=fr
   ·subst N;rw [g2 (.inr (e3 rfl))];exact hf
   ·rw [J b N];exact m b A (by omega)) (λbb hw L=>fp.new_eq S hw L) (nb:=c.nb) (by
    split
    ·rw [zy (by omega)];exact aW _
    ·exact aW _) (by omega)
  exact K ι2 D w' (λb hb'=>by rw [k1 b (by omega)];exact J b (by omega)) k2
 split at h
 ·rename_i cl p;split at h
  ·rename_i g q;split at h
   ·rename_i f cap hg;obtain ⟨l,hl,h⟩:=au h;obtain ⟨r,I,h3⟩:=tP hE h;split at I
    ·cases I
    rename_i B;simp only [ay] at B;obtain ⟨B,G,u⟩:=B;have u:r.kill=[]:=by simpa using u
    have B:=aD B;rw [zy (by omega)] at I;split at I
    ·rename_i j;refine .inr ⟨_,_,r.rd,I,λc A O e3 Z ι0 w0 ι a w C m next Q K=>?_⟩;obtain ⟨F,args,tys⟩:=cl;simp only at q;subst q;rw [p] at A;have M:=A g (by simp [Op.operands,Call.operands]);have e5:=lW (ρ:=opd s.T) (ρ':=opd c.T) (l:=args.toList) λx hx=>A x (by simp only [Op.operands,Call.operands,vK,kA];exact .inr hx);refine yq p C (λb q1 q2=>m b q1 (by omega)) hd (by rw [M];exact hg) (by rw [e5];exact hl) (by rw [Z];exact G) (by rw [u];rfl) (h3 _ O) (λhp=>by rw [hp] at j;cases j) (λ_ d x w' J i=>?_);rw [zy (by omega)] at i;rw [u] at i;exact K d x w' J i
    rename_i j;refine .inl ⟨_,_,_,_,I,λc A O e3 Z ι0 w0 ι a w C m next Q K=>?_⟩;obtain ⟨F,args,tys⟩:=cl;simp only at q;subst q;rw [p] at A;have M:=A g (by simp [Op.operands,Call.operands]);have e5:=lW (ρ:=opd s.T) (ρ':=opd c.T) (l:=args.toList) λx hx=>A x (by simp only [Op.operands,Call.operands,vK,kA];exact .inr hx);refine yq p C (λb q1 q2=>m b q1 (by omega)) hd (by rw [M];exact hg) (by rw [e5];exact hl) (by rw [Z];exact G) (by rw [u];rfl) (h3 _ O) (λ_ d D w' J i=>?_) (λhp=>by rw [hp] at j;cases j);rw [zy (by omega)] at i;rw [u] at J i;exact K d D w' (λb Y=>J b rfl (by omega)) i
   ·cases h
  ·exact .inl (U h)
 ·rename_i x p;split at h
  ·rename_i t v hx;refine .inr ⟨_,[],[],h,λc A O e3 Z ι0 w0 ι a w C m next Q K=>?_⟩;rw [p] at A;have M:=A x (by simp [Op.operands]);have hv:=bh C.tmps (by rw [M];exact hx);have hv':=hv;simp only [VR] at hv;obtain ⟨y,h6,_⟩:=hv;unfold Oper.wp;have R:(execOp a.eval o).run P w=.halt (.panic (.iface t y)) w:=by
    simp only [execOp,p,h6,Instr.panic,av,run_goPanic,Result.andThen_halt]
   rw [R];exact K ι _ w (h6▸hv') C
  ·cases h
 ·exact .inl (U h)
end Go.Abs
