
/- An operation's effect hangs on what it looks at: the operations of the model.
   Conditions: none; generic over the program. -/
import Derived.Test.YthemneooekobkaaGreatDoorAbsL
set_option linter.unusedVariables false
set_option linter.unusedSimpArgs false
namespace Go.Abs
variable {P:Program}
theorem lp {ρ ρ':Operand->Option V}:∀{l:List Operand},(∀x∈l,ρ' x=ρ x)->opds ρ' l=opds ρ l
 | [],_=>rfl
 | x::l,h=>by
  simp only [opds,h x (by simp),lp λy a=>h y (gk _ a)]
theorem nD {ρ ρ':Operand->Option V}:∀{l:List (Nat×Operand)},(∀x∈l,ρ' x.2=ρ x.2)->nG ρ' l=nG ρ l
 | [],_=>rfl
 | (i,x)::l,h=>by
  have a:ρ' x=ρ x:=h (i,x) (by simp);simp only [nG,a,nD λy b=>h y (gk _ b)]
theorem sK {ρ ρ':Operand->Option V} {x:Option Operand} (h:∀y,x=some y->ρ' y=ρ y):ox ρ' x=ox ρ x:=by
 cases x with
 | none=>rfl
 | some y=>simp only [ox,h y rfl]
theorem K9 {α:Type} {n len:Nat} {h:Option Int} {c:Nat->Option α} {z:α} (a:hiK n len h c=some z):∃m,c m=some z:=by
 unfold hiK at a;split at a
 ·exact ⟨_,a⟩
 ·obtain ⟨m,_,b⟩:=av a;exact ⟨m,b⟩
theorem L0 {α:Type} {n:Nat} {h:Option Int} {c:Nat->Option α} {z:α} (a:loK n h c=some z):∃m,c m=some z:=by
 unfold loK at a;split at a
 ·exact ⟨_,a⟩
 ·obtain ⟨m,_,b⟩:=av a;exact ⟨m,b⟩
theorem Bv {α:Type} {t:TypeId} {blk:Blk} {o:Nat} {v:V} {c:Blk->Option α} {z:α} (h:n6 P t blk o v c=some z):∃b,c b=some z:=by
 have h':ob (n6 P t blk o v some) c=some z:=(pH t blk o v some c).symm.trans h;obtain ⟨b,_,a⟩:=av h';exact ⟨b,a⟩
theorem JW {H a:List (Nat×Blk)} {u:V} {m:Nat} {rd:List Nat} (h:slL H u=some (m,rd)) (d:∀b∈rd,look a b=look H b):slL a u=some (m,rd):=by
 unfold slL at h ⊢;split at h
 ·rename_i c;split at h
  case h_2=>cases h
  rename_i tr l e;simp only [aq,bw] at h;obtain ⟨rfl,rfl⟩:=h;simp only [d c (by simp),e]
 ·exact h
 ·cases h
theorem Gq {ρ ρ':Operand->Option V} {H U:List (Nat×Blk)} {f:Nat} {op:Op} {e:Eff} (h:effK P ρ H f op some=some e) (a:∀x∈op.operands.toList,ρ' x=ρ x)
  (C:∀b∈e.rd,look U b=look H b):effK P ρ' U f op some=some e:=by
 cases op with
 | load t x=>
  have k:=a x (by simp [Op.operands]);simp only [effK,k] at h ⊢;split at h
  ·rename_i b o T;split at h
   ·rename_i blk g;have w:=h;rw [show (λv=>some ({ val:=some v,rd:=[b] }:Eff))=λv=>ob (some v) λv=>some ({ val:=some v,rd:=[b] }:Eff) from rfl,rk] at w;obtain ⟨v,_,B⟩:=av w;simp only [aq] at B;have F:=C b (by rw [<-B];simp);simp only [F,g,h]
   ·cases h
  ·rename_i zz b j o T;split at h
   case h_2=>cases h
   rename_i tr l g;split at h
   case h_2=>cases h
   rename_i D;obtain ⟨xr,N,w⟩:=av h;have h'':=w;rw [show (λv=>some ({ val:=some v,rd:=[b] }:Eff))=λv=>ob (some v) λv=>some ({ val:=some v,rd:=[b] }:Eff) from rfl,rk] at w;obtain ⟨v,_,B⟩:=av w;simp only [aq] at B;have F:=C b (by rw [<-B];simp);simp only [F,g,D,N,kQ,h'']
  ·cases h
 | makeSlice t x y=>simp only [effK,a x (by simp [Op.operands]),a y (by simp [Op.operands])] at h ⊢;exact h
 | store t x y=>
  have k:=a x (by simp [Op.operands]);have Q:=a y (by simp [Op.operands]);simp only [effK,k,Q] at h ⊢;split at h
  ·rename_i b o T;obtain ⟨v,G,h⟩:=av h;split at h
   ·rename_i blk g;have w:=h;rw [show (λr=>some ({ val:=none,rd:=[b],wr:=some (b,r) }:Eff))=λr=>ob (some r) λr=>some ({ val:=none,rd:=[b],wr:=some (b,r) }:Eff) from rfl,pH] at w;obtain ⟨v',_,B⟩:=av w;simp only [aq] at B;have F:=C b (by rw [<-B];simp);simp only [G,kQ,F,g,h]
   ·cases h
  ·rename_i zz b j o T;obtain ⟨v,G,w⟩:=av h;split at w
   case h_2=>cases w
   rename_i tr l g;split at w
   case h_2=>cases w
   rename_i D;obtain ⟨xr,N,K⟩:=av w;have B:=K;obtain ⟨r,O⟩:=Bv K;split at O
   case h_2=>cases O
   obtain ⟨x',_,S⟩:=av O;simp only [aq] at S;have F:=C b (by rw [<-S];simp);simp only [G,kQ,F,g,D,N,B]
  ·cases h
 | move x=>simp only [effK,a x (by simp [Op.operands])] at h ⊢;exact h
 | assign x=>simp only [effK,a x (by simp [Op.operands])] at h ⊢;exact h
 | pick c x y=>simp only [effK,a c (by simp [Op.operands]),a x (by simp [Op.operands]),a y (by simp [Op.operands])] at h ⊢;exact h
 | alloc t=>exact h
 | box t x=>simp only [effK,a x (by simp [Op.operands])] at h ⊢;exact h
 | build t ps=>
  have:=nD (ρ:=ρ) (ρ':=ρ') (l:=ps.toList) λx k=>a x.2 (by simp only [Op.operands,du];exact ⟨x,k,rfl⟩);simp only [effK,this] at h ⊢;exact h
 | buildSlice t n ps=>
  have:=nD (ρ:=ρ) (ρ':=ρ') (l:=ps.toList) λx k=>a x.2 (by simp only [Op.operands,du];exact ⟨x,k,rfl⟩);simp only [effK,this] at h ⊢;exact h
 | nilCheck x=>simp only [effK,a x (by simp [Op.operands])] at h ⊢;exact h
 | binOp o t x y yt=>
  simp only [effK,a x (by simp [Op.operands]),a y (by simp [Op.operands])] at h ⊢;obtain ⟨u,J,h⟩:=av h;obtain ⟨v,G,h⟩:=av h;rw [J,G];simp only [kQ];split at h
  ·exact h
  ·split at h
   ·split at h
    case h_2=>cases h
    rename_i m rd Y;obtain ⟨Z,h⟩:=dX h;have hl2:=JW Y λb g=>C b (by rw [<-aY h];exact g);rw [hl2];simp only [Z,aj];exact h
   ·exact h
 | unOp o t x=>simp only [effK,a x (by simp [Op.operands])] at h ⊢;exact h
 | convert s d x=>
  simp only [effK,a x (by simp [Op.operands])] at h ⊢;obtain ⟨v,G,q⟩:=av h;rw [G];simp only [kQ];have key:∀b,e.rd=[b]->look U b=look H b:=λb he=>C b (by rw [he];simp);cases v<;>try exact q
  ·rename_i b;split at q
   case h_2=>cases q
   split at q
   ·cases q
   ·simp only at q ⊢;split at q
    case h_2=>cases q
    split at q
    case h_2=>cases q
    split at q
    case h_2=>cases q
    rename_i g;have E:=q;simp only [aq] at E;rw [key b (by rw [<-E]),g];exact q
   ·split at q<;>cases q
   ·cases q
  ·rename_i zz b j n _;split at q
   case h_2=>cases q
   split at q
   ·cases q
   ·simp only at q ⊢;split at q
    case h_2=>cases q
    split at q
    case h_2=>cases q
    split at q
    case h_2=>cases q
    rename_i g;split at q
    case h_2=>cases q
    rename_i D;obtain ⟨hc,E⟩:=dX q;simp only [aq] at E;rw [key b (by rw [<-E]),g];simp only [D];exact q
   ·split at q<;>cases q
   ·cases q
  ·rename_i b o m cap;split at q
   case h_2=>cases q
   split at q
   ·cases q
   ·simp only at q ⊢;split at q
    case h_2=>cases q
    split at q
    case h_2=>cases q
    split at q
    case h_2=>cases q
    rename_i g;obtain ⟨hc,E⟩:=dX q;simp only [aq] at E;rw [key b (by rw [<-E]),g];exact q
   ·split at q<;>cases q
   ·cases q
 | next x str=>
  have k:=a x (by simp [Op.operands]);simp only [effK,k] at h ⊢;split at h
  case h_2=>cases h
  rename_i b T;split at h
  case h_2=>cases h
  rename_i l pos g;have F:look U b=look H b:=C b (by
   cases hc:Nat.blt pos l.length<;>rw [hc] at h<;>simp only [aj,af,aq] at h<;>rw [<-h]<;>simp)
  simp only [F,g];exact h
 | makeInterface t x=>simp only [effK,a x (by simp [Op.operands])] at h ⊢;exact h
 | makeFunc fn first cap=>
  have:=lp (ρ:=ρ) (ρ':=ρ') (l:=cap.toList) λx k=>a x (by simp only [Op.operands,ut,kL];exact .inr k);have B:=lp (ρ:=ρ) (ρ':=ρ') (l:=first.toList) λx k=>a x (by simp only [Op.operands,ut,kL];exact .inl k);simp only [effK,this,B] at h ⊢;exact h
 | slice t x lo hi mx=>
  have K:=a x (by simp [Op.operands]);have B:=sK (ρ:=ρ) (ρ':=ρ') (x:=lo) λy Q=>a y (by simp [Op.operands,Q]);have O:=sK (ρ:=ρ) (ρ':=ρ') (x:=hi) λy Q=>a y (by simp [Op.operands,Q]);simp only [effK,K,B,O] at h ⊢;cases mx with
  | some m=>
   simp only at h ⊢;have S:=a m (by simp [Op.operands]);cases lo with
   | some _=>exact h
   | none=>
   cases hi with
   | none=>exact h
   | some G=>
   have h5:=a G (by simp [Op.operands]);simp only [so,K,S,h5] at h ⊢;obtain ⟨u,J,z⟩:=av h;simp only [J,kQ];clear h;split at z
   case h_2=>cases z
   split at z
   case h_2=>cases z
   split at z
   case h_2=>cases z
   split at z
   ·rename_i b;split at z
    case h_2=>cases z
    rename_i tr l g;split at z
    case h_2=>cases z
    rename_i D;obtain ⟨M,hM,W⟩:=av z;obtain ⟨L,hL,A⟩:=av W;have R:=A;simp only [aq] at R;simp only [C b (by rw [<-R];simp),g,D,hM,hL,kQ,A]
   ·exact z
   ·exact z
   ·cases z
  | none=>
  simp only at h ⊢;obtain ⟨u,J,z⟩:=av h;obtain ⟨l,Y,W⟩:=av z;obtain ⟨hh,X,A⟩:=av W;simp only [J,Y,X,kQ];clear h z W;split at A
  ·exact A
  ·exact A
  ·split at A
   case h_2=>cases A
   cases u<;>try exact A
   case sl=>rename_i cap;cases cap<;>exact A
   rename_i b;simp only at A ⊢;split at A
   case h_2=>cases A
   rename_i tr m g;split at A
   case h_2=>cases A
   rename_i D;obtain ⟨H1,R⟩:=K9 A;obtain ⟨L1,q5⟩:=L0 R;simp only [aq] at q5;rw [C b (by rw [<-q5];simp),g];simp only [D];exact A
  ·cases A
 | makeMap t x=>exact h
 | insert t m x y=>
  simp only [effK,a m (by simp [Op.operands]),a x (by simp [Op.operands]),a y (by simp [Op.operands])] at h ⊢;split at h
  case h_2=>cases h
  rename_i b Z;split at h
  case h_2=>cases h
  split at h
  case h_2=>cases h
  split at h
  case h_2=>cases h
  split at h
  case h_2=>cases h
  rename_i k1 l g;split at h
  case h_2=>cases h
  rename_i I;rw [C b (by rw [<-aY h];simp),g];simp only [I];exact h
 | lookup t m x ok=>
  simp only [effK,a m (by simp [Op.operands]),a x (by simp [Op.operands])] at h ⊢;split at h
  case h_2=>cases h
  rename_i b Z;split at h
  case h_2=>cases h
  split at h
  case h_2=>cases h
  split at h
  case h_2=>cases h
  split at h
  case h_2=>cases h
  rename_i k1 l g;split at h
  case h_2=>cases h
  rename_i I;have hrd:e.rd=[b]:=by
   clear g;revert h;generalize l=l'
   induction l' with
   | nil=>intro h;cases h
   | cons p l ih=>
    intro h;simp only [mapK] at h;revert h;cases (_==p.1) with
    | true=>intro h;rw [<-aY h]
    | false=>exact ih
  rw [C b (by rw [hrd];simp),g];simp only [I];exact h
 | fieldAddr t x i=>simp only [effK,a x (by simp [Op.operands])] at h ⊢;exact h
 | field t x i=>simp only [effK,a x (by simp [Op.operands])] at h ⊢;exact h
 | indexAddr t x i=>
  simp only [effK,a x (by simp [Op.operands]),a i (by simp [Op.operands])] at h ⊢;split at h
  case h_2=>cases h
  split at h
  ·exact h
  ·split at h
   ·rename_i k;first | exact h | (simp only [k];exact h)
   ·rename_i b k;split at h
    case h_2=>cases h
    rename_i tr l g;split at h
    case h_2=>cases h
    rename_i D;obtain ⟨j,N,w⟩:=av h;have B:=w;simp only [aq] at B;simp only [k,C b (by rw [<-B];simp),g,D,N,kQ,w]
   ·rename_i k;first | exact h | (simp only [k];exact h)
   ·cases h
  ·cases h
 | index t x i=>simp only [effK,a x (by simp [Op.operands]),a i (by simp [Op.operands])] at h ⊢;exact h
 | range t x=>simp only [effK,a x (by simp [Op.operands])] at h ⊢;exact h
 | typeAssert x xt at_ ok=>simp only [effK,a x (by simp [Op.operands])] at h ⊢;exact h
 | extract x i=>simp only [effK,a x (by simp [Op.operands])] at h ⊢;exact h
 | call cl=>
  have:=lp (ρ:=ρ) (ρ':=ρ') (l:=cl.args.toList) λx k=>a x (by simp only [Op.operands,Call.operands,ut,kL];exact .inr k);simp only [effK,this] at h ⊢;split at h
  case h_2=>cases h
  obtain ⟨args,ha,q⟩:=av h;simp only [ha,kQ];split at q
  ·split at q
   ·exact q
   ·exact q
   ·exact q
   ·rename_i b;split at q
    case h_2=>cases q
    split at q
    case h_2=>cases q
    split at q
    case h_2=>cases q
    rename_i g;have E:=q;simp only [aq] at E;simp only [C b (by rw [<-E];simp),g, *]
   ·exact q
   ·rename_i x n1 n2 n3 n4 n5;cases x<;>first | exact q | exact absurd rfl (n1 _) | exact absurd rfl (n2 _ _ _ _) | exact absurd rfl n3 | exact absurd rfl (n4 _) | exact absurd rfl (n5 _ _ _ _ _)
   ·cases q
  ·exact q
  ·exact q
  ·exact q
  ·cases q
 | _=>simp [effK] at h
theorem IH {α:Type} {ρ:Operand->Option V} {H:List (Nat×Blk)} {f:Nat} {op:Op} {c:Eff->Option α} {z:α} (h:effK P ρ H f op c=some z):
  ∃e,effK P ρ H f op some=some e/\c e=some z:=by
 have h':ob (effK P ρ H f op some) c=some z:=(LN ρ H f op some c).symm.trans h;exact av h'
theorem AK {a b:Nat} (h:b<=a):max a b=a:=Nat.max_eq_left h
theorem zu {α:Type} {E:List Ent} (hE:∀x∈E,fO P x) {n fr:Nat} {s:St} {o:Oper} (hnb:fr+8<=s.nb) {k:St->List Nat->List (Nat×Blk)->Nat->Option α} {kp:V->St->Option α} {z:α}
  (h:Am P E n fr o s k kp=some z):
  (∃val wr rd g,k (s.app o.dst val wr s.nb) rd wr g=some z/\∀s':St,(∀x∈o.op.operands.toList,opd s'.T x=opd s.T x)->(∀b∈rd,look s'.H b=look s.H b)->s'.nb=s.nb->s'.ro=s.ro->
   ∀(ι0:Inj) (w0:Base) (ι:Inj) (a:Act) (w:World),Inv n ι0 w0 ι s' a w->(∀b,fr<=b->b<fr+8->ι b=none)->∀(next:Act->World->Prop) (Q:Exit->Act->World->Prop),
    (∀c C w',(∀b,(b<fr\/fr+8<=b)->c b=ι b)->Inv n ι0 w0 c (s'.app o.dst val wr s'.nb) C w'->next C w')->o.wp P a w next Q)\/
  (∃(v:V) (wr:List (Nat×Blk)) (rd:List Nat),kp v (s.app none none wr s.nb)=some z/\∀s':St,(∀x∈o.op.operands.toList,opd s'.T x=opd s.T x)->(∀b∈rd,look s'.H b=look s.H b)->s'.nb=s.nb->s'.ro=s.ro->
   ∀(ι0:Inj) (w0:Base) (ι:Inj) (a:Act) (w:World),Inv n ι0 w0 ι s' a w->(∀b,fr<=b->b<fr+8->ι b=none)->∀(next:Act->World->Prop) (Q:Exit->Act->World->Prop),
    (∀c x w',VR c v x->Inv n ι0 w0 c (s'.app none none wr s'.nb) a w'->Q (.panic [{ v:=x,recovered:=false }]) a w')->o.wp P a w next Q):=by
 unfold Am at h;split at h
 ·cases h
 rename_i hd;have L:rQ P fr o s k=some z->∃val wr rd g,k (s.app o.dst val wr s.nb) rd wr g=some z/\∀s':St,(∀x∈o.op.operands.toList,opd s'.T x=opd s.T x)->(∀b∈rd,look s'.H b=look s.H b)->s'.nb=s.nb->s'.ro=s.ro->
   ∀(ι0:Inj) (w0:Base) (ι:Inj) (a:Act) (w:World),Inv n ι0 w0 ι s' a w->(∀b,fr<=b->b<fr+8->ι b=none)->∀(next:Act->World->Prop) (Q:Exit->Act->World->Prop),
    (∀c C w',(∀b,(b<fr\/fr+8<=b)->c b=ι b)->Inv n ι0 w0 c (s'.app o.dst val wr s'.nb) C w'->next C w')->o.wp P a w next Q:=by
  intro h;unfold rQ at h;obtain ⟨e,he,U⟩:=IH h;split at U;rename_i v wr g hne;split at U
  case h_2=>cases U
  rename_i Y;simp only [aA] at Y;have hg8:=aH Y.2;have R:nbOf s.nb fr g=s.nb:=by
   cases g with
   | zero=>rfl
   | succ g=>exact AK (by omega)
  rw [R] at U;refine ⟨v,wr,e.rd,g,U,λs' h1 F h3 hro ι0 w0 ι a w B j next Q I=>?_⟩;have hf:=j fr (aU _) (by omega);have he':=Gq he h1 F;obtain ⟨e',h4,S⟩:=Hl B.tmps B.mem hf he';simp only [aq] at h4;subst h4;refine C9 B hf hd S (λJ bb hw=>by
   have:=Y.1;unfold roOK at this;rw [hw] at this;simp only [J] at this;rw [hro];exact aH this) λc C w' K g2 d=>?_
  obtain ⟨ι2,k1,k2⟩:=Ak hne d (λb u M e3=>by
   by_cases O:b=fr
   ·subst O;rw [g2 (.inr (e3 rfl))];exact hf
   ·rw [K b O];exact j b u (by omega)) (λbb hw J=>fK.new_eq S hw J) (nb:=s'.nb) (by
    split
    ·rw [AK (by omega)];exact aU _
    ·exact aU _) (by omega)
  exact I ι2 C w' (λb hb'=>by rw [k1 b (by omega)];exact K b (by omega)) k2
 split at h
 ·rename_i cl m;split at h
  ·rename_i g p;split at h
   ·rename_i f cap hg;obtain ⟨l,hl,h⟩:=av h;obtain ⟨r,F,h3⟩:=tt hE h;split at F
    ·cases F
    rename_i A;simp only [aA] at A;obtain ⟨A,G,q⟩:=A;have q:r.kill=[]:=by simpa using q
    have A:=aH A;rw [AK (by omega)] at F;split at F
    ·rename_i i;refine .inr ⟨_,_,r.rd,F,λs' u M e3 Z ι0 w0 ι a w B j next Q I=>?_⟩;obtain ⟨D,args,tys⟩:=cl;simp only at p;subst p;rw [m] at u;have N:=u g (by simp [Op.operands,Call.operands]);have e5:=lp (ρ:=opd s.T) (ρ':=opd s'.T) (l:=args.toList) λx X=>u x (by simp only [Op.operands,Call.operands,ut,kL];exact .inr X);refine yu m B (λb q1 q2=>j b q1 (by omega)) hd (by rw [N];exact hg) (by rw [e5];exact hl) (by rw [Z];exact G) (by rw [q];rfl) (h3 _ M) (λhp=>by rw [hp] at i;cases i) (λ_ c x w' K d=>?_);rw [AK (by omega)] at d;rw [q] at d;exact I c x w' K d
    rename_i i;refine .inl ⟨_,_,_,_,F,λs' u M e3 Z ι0 w0 ι a w B j next Q I=>?_⟩;obtain ⟨D,args,tys⟩:=cl;simp only at p;subst p;rw [m] at u;have N:=u g (by simp [Op.operands,Call.operands]);have e5:=lp (ρ:=opd s.T) (ρ':=opd s'.T) (l:=args.toList) λx X=>u x (by simp only [Op.operands,Call.operands,ut,kL];exact .inr X);refine yu m B (λb q1 q2=>j b q1 (by omega)) hd (by rw [N];exact hg) (by rw [e5];exact hl) (by rw [Z];exact G) (by rw [q];rfl) (h3 _ M) (λ_ c C w' K d=>?_) (λhp=>by rw [hp] at i;cases i);rw [AK (by omega)] at d;rw [q] at K d;exact I c C w' (λb Y=>K b rfl (by omega)) d
   ·cases h
  ·exact .inl (L h)
 ·rename_i x m;split at h
  ·rename_i t v X;refine .inr ⟨_,[],[],h,λs' u M e3 Z ι0 w0 ι a w B j next Q I=>?_⟩;rw [m] at u;have N:=u x (by simp [Op.operands]);have hv:=bh B.tmps (by rw [N];exact X);have hv':=hv;simp only [VR] at hv;obtain ⟨y,h6,_⟩:=hv;unfold Oper.wp;have W:(execOp a.eval o).run P w=.halt (.panic (.iface t y)) w:=by
    simp only [execOp,m,h6,Instr.panic,ax,run_goPanic,Result.andThen_halt]
   rw [W];exact I ι _ w (h6▸hv') B
  ·cases h
 ·exact .inl (L h)
end Go.Abs
