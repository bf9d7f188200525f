
/- An operation's effect hangs on what it looks at: the operations of the model.
   Conditions: none; generic over the program. -/
import Derived.Test.YtfiponokimbeeaaGreatDoorAbsL
set_option linter.unusedVariables false
set_option linter.unusedSimpArgs false
namespace Go.Abs
variable {P:Program}
theorem nq {ρ ρ':Operand->Option V}:∀{l:List Operand},(∀x∈l,ρ' x=ρ x)->opds ρ' l=opds ρ l
 | [],_=>rfl
 | x::l,h=>by
  simp only [opds,h x (by simp),nq λy hy=>h y (gy _ hy)]
theorem pq {ρ ρ':Operand->Option V}:∀{l:List (Nat×Operand)},(∀x∈l,ρ' x.2=ρ x.2)->pY ρ' l=pY ρ l
 | [],_=>rfl
 | (i,x)::l,h=>by
  have a:ρ' x=ρ x:=h (i,x) (by simp);simp only [pY,a,pq λy hy=>h y (gy _ hy)]
theorem ve {ρ ρ':Operand->Option V} {x:Option Operand} (h:∀y,x=some y->ρ' y=ρ y):qs ρ' x=qs ρ x:=by
 cases x with
 | none=>rfl
 | some y=>simp only [qs,h y rfl]
theorem OZ {α:Type} {n len:Nat} {h:Option Int} {c:Nat->Option α} {z:α} (a:hiK n len h c=some z):∃m,c m=some z:=by
 unfold hiK at a;split at a
 ·exact ⟨_,a⟩
 ·obtain ⟨m,_,b⟩:=av a;exact ⟨m,b⟩
theorem PN {α:Type} {n:Nat} {h:Option Int} {c:Nat->Option α} {z:α} (a:loK n h c=some z):∃m,c m=some z:=by
 unfold loK at a;split at a
 ·exact ⟨_,a⟩
 ·obtain ⟨m,_,b⟩:=av a;exact ⟨m,b⟩
theorem Eh {α:Type} {t:TypeId} {blk:Blk} {o:Nat} {v:V} {c:Blk->Option α} {z:α} (h:qI P t blk o v c=some z):∃b,c b=some z:=by
 have h':ob (qI P t blk o v some) c=some z:=(rr t blk o v some c).symm.trans h;obtain ⟨b,_,a⟩:=av h';exact ⟨b,a⟩
theorem Nn {H a:List (Nat×Blk)} {u:V} {m:Nat} {rd:List Nat} (h:slL H u=some (m,rd)) (e:∀b∈rd,look a b=look H b):slL a u=some (m,rd):=by
 unfold slL at h ⊢;split at h
 ·rename_i c;split at h
  case h_2=>cases h
  rename_i tr l d;simp only [au,bC] at h;obtain ⟨rfl,rfl⟩:=h;simp only [e c (by simp),d]
 ·exact h
 ·cases h
theorem I1 {ρ ρ':Operand->Option V} {H O:List (Nat×Blk)} {f:Nat} {op:Op} {e:Eff} (h:effK P ρ H f op some=some e) (a:∀x∈op.operands.toList,ρ' x=ρ x)
  (B:∀b∈e.rd,look O b=look H b):effK P ρ' O f op some=some e:=by
 cases op with
 | load t x=>
  have hx:=a x (by simp [Op.operands]);simp only [effK,hx] at h ⊢;split at h
  ·rename_i b o hp;split at h
   ·rename_i blk g;have z:=h;rw [show (λv=>some ({ val:=some v,rd:=[b] }:Eff))=λv=>ob (some v) λv=>some ({ val:=some v,rd:=[b] }:Eff) from rfl,ub] at z;obtain ⟨v,_,A⟩:=av z;simp only [au] at A;have F:=B b (by rw [<-A];simp);simp only [F,g,h]
   ·cases h
  ·rename_i zz b j o hp;split at h
   case h_2=>cases h
   rename_i tr l g;split at h
   case h_2=>cases h
   rename_i D;obtain ⟨xr,J,z⟩:=av h;have h'':=z;rw [show (λv=>some ({ val:=some v,rd:=[b] }:Eff))=λv=>ob (some v) λv=>some ({ val:=some v,rd:=[b] }:Eff) from rfl,ub] at z;obtain ⟨v,_,A⟩:=av z;simp only [au] at A;have F:=B b (by rw [<-A];simp);simp only [F,g,D,J,mN,h'']
  ·cases h
 | makeSlice t x y=>simp only [effK,a x (by simp [Op.operands]),a y (by simp [Op.operands])] at h ⊢;exact h
 | store t x y=>
  have hx:=a x (by simp [Op.operands]);have hy:=a y (by simp [Op.operands]);simp only [effK,hx,hy] at h ⊢;split at h
  ·rename_i b o hp;obtain ⟨v,E,h⟩:=av h;split at h
   ·rename_i blk g;have z:=h;rw [show (λk=>some ({ val:=none,rd:=[b],wr:=some (b,k) }:Eff))=λk=>ob (some k) λk=>some ({ val:=none,rd:=[b],wr:=some (b,k) }:Eff) from rfl,rr] at z;obtain ⟨v',_,A⟩:=av z;simp only [au] at A;have F:=B b (by rw [<-A];simp);simp only [E,mN,F,g,h]
   ·cases h
  ·rename_i zz b j o hp;obtain ⟨v,E,z⟩:=av h;split at z
   case h_2=>cases z
   rename_i tr l g;split at z
   case h_2=>cases z
   rename_i D;obtain ⟨xr,J,I⟩:=av z;have A:=I;obtain ⟨k,N⟩:=Eh I;split at N
   case h_2=>cases N
   obtain ⟨x',_,S⟩:=av N;simp only [au] at S;have F:=B b (by rw [<-S];simp);simp only [E,mN,F,g,D,J,A]
  ·cases h
 | move x=>simp only [effK,a x (by simp [Op.operands])] at h ⊢;exact h
 | assign x=>simp only [effK,a x (by simp [Op.operands])] at h ⊢;exact h
 | pick c x y=>simp only [effK,a c (by simp [Op.operands]),a x (by simp [Op.operands]),a y (by simp [Op.operands])] at h ⊢;exact h
 | alloc t=>exact h
 | box t x=>simp only [effK,a x (by simp [Op.operands])] at h ⊢;exact h
 | build t Z=>
  have:=pq (ρ:=ρ) (ρ':=ρ') (l:=Z.toList) λx hx=>a x.2 (by simp only [Op.operands,eZ];exact ⟨x,hx,rfl⟩);simp only [effK,this] at h ⊢;exact h
 | buildSlice t n Z=>
  have:=pq (ρ:=ρ) (ρ':=ρ') (l:=Z.toList) λx hx=>a x.2 (by simp only [Op.operands,eZ];exact ⟨x,hx,rfl⟩);simp only [effK,this] at h ⊢;exact h
 | nilCheck x=>simp only [effK,a x (by simp [Op.operands])] at h ⊢;exact h
 | binOp o t x y yt=>
  simp only [effK,a x (by simp [Op.operands]),a y (by simp [Op.operands])] at h ⊢;obtain ⟨u,K,h⟩:=av h;obtain ⟨v,E,h⟩:=av h;rw [K,E];simp only [mN];split at h
  ·exact h
  ·split at h
   ·split at h
    case h_2=>cases h
    rename_i m rd W;obtain ⟨X,h⟩:=dZ h;have Y:=Nn W λb g=>B b (by rw [<-aZ h];exact g);rw [Y];simp only [X,ah];exact h
   ·exact h
 | unOp o t x=>simp only [effK,a x (by simp [Op.operands])] at h ⊢;exact h
 | convert s d x=>
  simp only [effK,a x (by simp [Op.operands])] at h ⊢;obtain ⟨v,E,q⟩:=av h;rw [E];simp only [mN];have key:∀b,e.rd=[b]->look O b=look H b:=λb he=>B b (by rw [he];simp);cases v<;>try exact q
  ·rename_i b;split at q
   case h_2=>cases q
   split at q
   ·cases q
   ·simp only at q ⊢;split at q
    case h_2=>cases q
    split at q
    case h_2=>cases q
    split at q
    case h_2=>cases q
    rename_i g;have C:=q;simp only [au] at C;rw [key b (by rw [<-C]),g];exact q
   ·split at q<;>cases q
   ·cases q
  ·rename_i zz b j n _;split at q
   case h_2=>cases q
   split at q
   ·cases q
   ·simp only at q ⊢;split at q
    case h_2=>cases q
    split at q
    case h_2=>cases q
    split at q
    case h_2=>cases q
    rename_i g;split at q
    case h_2=>cases q
    rename_i D;obtain ⟨hc,C⟩:=dZ q;simp only [au] at C;rw [key b (by rw [<-C]),g];simp only [D];exact q
   ·split at q<;>cases q
   ·cases q
  ·rename_i b o m cap;split at q
   case h_2=>cases q
   split at q
   ·cases q
   ·simp only at q ⊢;split at q
    case h_2=>cases q
    split at q
    case h_2=>cases q
    split at q
    case h_2=>cases q
    rename_i g;obtain ⟨hc,C⟩:=dZ q;simp only [au] at C;rw [key b (by rw [<-C]),g];exact q
   ·split at q<;>cases q
   ·cases q
 | next x str=>
  have hx:=a x (by simp [Op.operands]);simp only [effK,hx] at h ⊢;split at h
  case h_2=>cases h
  rename_i b hp;split at h
  case h_2=>cases h
  rename_i l pos g;have F:look O b=look H b:=B b (by
   cases hc:Nat.blt pos l.length<;>rw [hc] at h<;>simp only [ah,af,au] at h<;>rw [<-h]<;>simp)
  simp only [F,g];exact h
 | makeInterface t x=>simp only [effK,a x (by simp [Op.operands])] at h ⊢;exact h
 | makeFunc fn first cap=>
  have:=nq (ρ:=ρ) (ρ':=ρ') (l:=cap.toList) λx hx=>a x (by simp only [Op.operands,wq,n7];exact .inr hx);have A:=nq (ρ:=ρ) (ρ':=ρ') (l:=first.toList) λx hx=>a x (by simp only [Op.operands,wq,n7];exact .inl hx);simp only [effK,this,A] at h ⊢;exact h
 | slice t x lo hi mx=>
  have I:=a x (by simp [Op.operands]);have A:=ve (ρ:=ρ) (ρ':=ρ') (x:=lo) λy hy=>a y (by simp [Op.operands,hy]);have N:=ve (ρ:=ρ) (ρ':=ρ') (x:=hi) λy hy=>a y (by simp [Op.operands,hy]);simp only [effK,I,A,N] at h ⊢;cases mx with
  | some m=>
   simp only at h ⊢;have S:=a m (by simp [Op.operands]);cases lo with
   | some _=>exact h
   | none=>
   cases hi with
   | none=>exact h
   | some E=>
   have h5:=a E (by simp [Op.operands]);simp only [uE,I,S,h5] at h ⊢;obtain ⟨u,K,w⟩:=av h;simp only [K,mN];clear h;split at w
   case h_2=>cases w
   split at w
   case h_2=>cases w
   split at w
   case h_2=>cases w
   split at w
   ·rename_i b;split at w
    case h_2=>cases w
    rename_i tr l g;split at w
    case h_2=>cases w
    rename_i D;obtain ⟨M,hM,Q⟩:=av w;obtain ⟨L,hL,r⟩:=av Q;have R:=r;simp only [au] at R;simp only [B b (by rw [<-R];simp),g,D,hM,hL,mN,r]
   ·exact w
   ·exact w
   ·cases w
  | none=>
  simp only at h ⊢;obtain ⟨u,K,w⟩:=av h;obtain ⟨l,W,Q⟩:=av w;obtain ⟨hh,T,r⟩:=av Q;simp only [K,W,T,mN];clear h w Q;split at r
  ·exact r
  ·exact r
  ·split at r
   case h_2=>cases r
   cases u<;>try exact r
   case sl=>rename_i cap;cases cap<;>exact r
   rename_i b;simp only at r ⊢;split at r
   case h_2=>cases r
   rename_i tr m g;split at r
   case h_2=>cases r
   rename_i D;obtain ⟨H1,R⟩:=OZ r;obtain ⟨L1,q5⟩:=PN R;simp only [au] at q5;rw [B b (by rw [<-q5];simp),g];simp only [D];exact r
  ·cases r
 | makeMap t x=>exact h
 | insert t m x y=>
  simp only [effK,a m (by simp [Op.operands]),a x (by simp [Op.operands]),a y (by simp [Op.operands])] at h ⊢;split at h
  case h_2=>cases h
  rename_i b X;split at h
  case h_2=>cases h
  split at h
  case h_2=>cases h
  split at h
  case h_2=>cases h
  split at h
  case h_2=>cases h
  rename_i k1 l g;split at h
  case h_2=>cases h
  rename_i G;rw [B b (by rw [<-aZ h];simp),g];simp only [G];exact h
 | lookup t m x ok=>
  simp only [effK,a m (by simp [Op.operands]),a x (by simp [Op.operands])] at h ⊢;split at h
  case h_2=>cases h
  rename_i b X;split at h
  case h_2=>cases h
  split at h
  case h_2=>cases h
  split at h
  case h_2=>cases h
  split at h
  case h_2=>cases h
  rename_i k1 l g;split at h
  case h_2=>cases h
  rename_i G;have U:e.rd=[b]:=by
   clear g;revert h;generalize l=l'
   induction l' with
   | nil=>intro h;cases h
   | cons p l ih=>
    intro h;simp only [mapK] at h;revert h;cases (_==p.1) with
    | true=>intro h;rw [<-aZ h]
    | false=>exact ih
  rw [B b (by rw [U];simp),g];simp only [G];exact h
 | fieldAddr t x i=>simp only [effK,a x (by simp [Op.operands])] at h ⊢;exact h
 | field t x i=>simp only [effK,a x (by simp [Op.operands])] at h ⊢;exact h
 | indexAddr t x i=>
  simp only [effK,a x (by simp [Op.operands]),a i (by simp [Op.operands])] at h ⊢;split at h
  case h_2=>cases h
  split at h
  ·exact h
  ·split at h
   ·rename_i hx;first | exact h | (simp only [hx];exact h)
   ·rename_i b hx;split at h
    case h_2=>cases h
    rename_i tr l g;split at h
    case h_2=>cases h
    rename_i D;obtain ⟨j,J,z⟩:=av h;have A:=z;simp only [au] at A;simp only [hx,B b (by rw [<-A];simp),g,D,J,mN,z]
   ·rename_i hx;first | exact h | (simp only [hx];exact h)
   ·cases h
  ·cases h
 | index t x i=>simp only [effK,a x (by simp [Op.operands]),a i (by simp [Op.operands])] at h ⊢;exact h
 | range t x=>simp only [effK,a x (by simp [Op.operands])] at h ⊢;exact h
 | typeAssert x xt at_ ok=>simp only [effK,a x (by simp [Op.operands])] at h ⊢;exact h
 | extract x i=>simp only [effK,a x (by simp [Op.operands])] at h ⊢;exact h
 | call cl=>
  have:=nq (ρ:=ρ) (ρ':=ρ') (l:=cl.args.toList) λx hx=>a x (by simp only [Op.operands,Call.operands,wq,n7];exact .inr hx);simp only [effK,this] at h ⊢;split at h
  case h_2=>cases h
  obtain ⟨args,ha,q⟩:=av h;simp only [ha,mN];split at q
  ·split at q
   ·exact q
   ·exact q
   ·exact q
   ·rename_i b;split at q
    case h_2=>cases q
    split at q
    case h_2=>cases q
    split at q
    case h_2=>cases q
    rename_i g;have C:=q;simp only [au] at C;simp only [B b (by rw [<-C];simp),g, *]
   ·exact q
   ·rename_i x n1 n2 n3 n4 n5;cases x<;>first | exact q | exact absurd rfl (n1 _) | exact absurd rfl (n2 _ _ _ _) | exact absurd rfl n3 | exact absurd rfl (n4 _) | exact absurd rfl (n5 _ _ _ _ _)
   ·cases q
  ·exact q
  ·exact q
  ·exact q
  ·cases q
 | _=>simp [effK] at h
theorem MV {α:Type} {ρ:Operand->Option V} {H:List (Nat×Blk)} {f:Nat} {op:Op} {c:Eff->Option α} {z:α} (h:effK P ρ H f op c=some z):
  ∃e,effK P ρ H f op some=some e/\c e=some z:=by
 have h':ob (effK P ρ H f op some) c=some z:=(OO ρ H f op some c).symm.trans h;exact av h'
theorem CU {a b:Nat} (h:b<=a):max a b=a:=Nat.max_eq_left h
theorem Dj {α:Type} {E:List Ent} (hE:∀x∈E,fF P x) {n fr:Nat} {s:St} {o:Oper} (hnb:fr+8<=s.nb) {k:St->List Nat->List (Nat×Blk)->Nat->Option α} {kp:V->St->Option α} {z:α}
  (h:CS P E n fr o s k kp=some z):
  (∃val wr rd g,k (s.app o.dst val wr s.nb) rd wr g=some z/\∀s':St,(∀x∈o.op.operands.toList,opd s'.T x=opd s.T x)->(∀b∈rd,look s'.H b=look s.H b)->s'.nb=s.nb->s'.ro=s.ro->
   ∀(ι0:Inj) (w0:Base) (ι:Inj) (a:Act) (w:World),Inv n ι0 w0 ι s' a w->(∀b,fr<=b->b<fr+8->ι b=none)->∀(next:Act->World->Prop) (Q:Exit->Act->World->Prop),
    (∀c D w',(∀b,(b<fr\/fr+8<=b)->c b=ι b)->Inv n ι0 w0 c (s'.app o.dst val wr s'.nb) D w'->next D w')->o.wp P a w next Q)\/
  (∃(v:V) (wr:List (Nat×Blk)) (rd:List Nat),kp v (s.app none none wr s.nb)=some z/\∀s':St,(∀x∈o.op.operands.toList,opd s'.T x=opd s.T x)->(∀b∈rd,look s'.H b=look s.H b)->s'.nb=s.nb->s'.ro=s.ro->
   ∀(ι0:Inj) (w0:Base) (ι:Inj) (a:Act) (w:World),Inv n ι0 w0 ι s' a w->(∀b,fr<=b->b<fr+8->ι b=none)->∀(next:Act->World->Prop) (Q:Exit->Act->World->Prop),
    (∀c x w',VR c v x->Inv n ι0 w0 c (s'.app none none wr s'.nb) a w'->Q (.panic [{ v:=x,recovered:=false }]) a w')->o.wp P a w next Q):=by
 unfold CS at h;split at h
 ·cases h
 rename_i hd;have W:uC P fr o s k=some z->∃val wr rd g,k (s.app o.dst val wr s.nb) rd wr g=some z/\∀s':St,(∀x∈o.op.operands.toList,opd s'.T x=opd s.T x)->(∀b∈rd,look s'.H b=look s.H b)->s'.nb=s.nb->s'.ro=s.ro->
   ∀(ι0:Inj) (w0:Base) (ι:Inj) (a:Act) (w:World),Inv n ι0 w0 ι s' a w->(∀b,fr<=b->b<fr+8->ι b=none)->∀(next:Act->World->Prop) (Q:Exit->Act->World->Prop),
    (∀c D w',(∀b,(b<fr\/fr+8<=b)->c b=ι b)->Inv n ι0 w0 c (s'.app o.dst val wr s'.nb) D w'->next D w')->o.wp P a w next Q:=by
  intro h;unfold uC at h;obtain ⟨e,he,L⟩:=MV h;split at L;rename_i v wr g hne;split at L
  case h_2=>cases L
  rename_i Y;simp only [az] at Y;have hg8:=aI Y.2;have N:nbOf s.nb fr g=s.nb:=by
   cases g with
   | zero=>rfl
   | succ g=>exact CU (by omega)
  rw [N] at L;refine ⟨v,wr,e.rd,g,L,λs' h1 G h3 hro ι0 w0 ι a w B j next Q K=>?_⟩;have hf:=j fr (aY _) (by omega);have he':=I1 he h1 G;obtain ⟨e',h4,O⟩:=Lj B.tmps B.mem hf he';simp only [au] at h4;subst h4;refine GE B hf hd O (λJ bb hw=>by
   have:=Y.1;unfold roOK at this;rw [hw] at this;simp only [J] at this;rw [hro];exact aI this) λc D w' I g2 d=>?_
  obtain ⟨ι2,k1,k2⟩:=Eb hne d (λb u R Z=>by
   by_cases U:b=fr
   ·subst U;rw [g2 (.inr (Z rfl))];exact hf
   ·rw [I b U];exact j b u (by omega)) (λbb hw J=>gJ.new_eq O hw J) (nb:=s'.nb) (by
    split
    ·rw [CU (by omega)];exact aY _
    ·exact aY _) (by omega)
  exact K ι2 D w' (λb hb'=>by rw [k1 b (by omega)];exact I b (by omega)) k2
 split at h
 ·rename_i cl m;split at h
  ·rename_i g p;split at h
   ·rename_i f cap hg;obtain ⟨l,hl,h⟩:=av h;obtain ⟨r,G,h3⟩:=vU hE h;split at G
    ·cases G
    rename_i A;simp only [az] at A;obtain ⟨A,F,q⟩:=A;have q:r.kill=[]:=by simpa using q
    have A:=aI A;rw [CU (by omega)] at G;split at G
    ·rename_i i;refine .inr ⟨_,_,r.rd,G,λs' u R Z X ι0 w0 ι a w B j next Q K=>?_⟩;obtain ⟨C,args,tys⟩:=cl;simp only at p;subst p;rw [m] at u;have M:=u g (by simp [Op.operands,Call.operands]);have e5:=nq (ρ:=opd s.T) (ρ':=opd s'.T) (l:=args.toList) λx hx=>u x (by simp only [Op.operands,Call.operands,wq,n7];exact .inr hx);refine zZ m B (λb q1 q2=>j b q1 (by omega)) hd (by rw [M];exact hg) (by rw [e5];exact hl) (by rw [X];exact F) (by rw [q];rfl) (h3 _ R) (λhp=>by rw [hp] at i;cases i) (λ_ c x w' I d=>?_);rw [CU (by omega)] at d;rw [q] at d;exact K c x w' I d
    rename_i i;refine .inl ⟨_,_,_,_,G,λs' u R Z X ι0 w0 ι a w B j next Q K=>?_⟩;obtain ⟨C,args,tys⟩:=cl;simp only at p;subst p;rw [m] at u;have M:=u g (by simp [Op.operands,Call.operands]);have e5:=nq (ρ:=opd s.T) (ρ':=opd s'.T) (l:=args.toList) λx hx=>u x (by simp only [Op.operands,Call.operands,wq,n7];exact .inr hx);refine zZ m B (λb q1 q2=>j b q1 (by omega)) hd (by rw [M];exact hg) (by rw [e5];exact hl) (by rw [X];exact F) (by rw [q];rfl) (h3 _ R) (λ_ c D w' I d=>?_) (λhp=>by rw [hp] at i;cases i);rw [CU (by omega)] at d;rw [q] at I d;exact K c D w' (λb Y=>I b rfl (by omega)) d
   ·cases h
  ·exact .inl (W h)
 ·rename_i x m;split at h
  ·rename_i t v hx;refine .inr ⟨_,[],[],h,λs' u R Z X ι0 w0 ι a w B j next Q K=>?_⟩;rw [m] at u;have M:=u x (by simp [Op.operands]);have hv:=bu B.tmps (by rw [M];exact hx);have hv':=hv;simp only [VR] at hv;obtain ⟨y,h6,_⟩:=hv;unfold Oper.wp;have S:(execOp a.eval o).run P w=.halt (.panic (.iface t y)) w:=by
    simp only [execOp,m,h6,Instr.panic,aw,run_goPanic,Result.andThen_halt]
   rw [S];exact K ι _ w (h6▸hv') B
  ·cases h
 ·exact .inl (W h)
end Go.Abs
