
/- An operation's effect hangs on what it looks at: the operations of the model.
   Conditions: none; generic over the program. -/
import Derived.Test.YtaogbalpingjhaaGreatDoorAbsL
set_option linter.unusedVariables false
set_option linter.unusedSimpArgs false
namespace Go.Abs
variable {P:Program}
theorem lp {ρ ρ':Operand->Option V}:∀{l:List Operand},(∀x∈l,ρ' x=ρ x)->opds ρ' l=opds ρ l
 | [],_=>rfl
 | x::l,h=>by
  simp only [opds,h x (by simp),lp λy hy=>h y (eC _ hy)]
theorem m7 {ρ ρ':Operand->Option V}:∀{l:List (Nat×Operand)},(∀x∈l,ρ' x.2=ρ x.2)->nl ρ' l=nl ρ l
 | [],_=>rfl
 | (i,x)::l,h=>by
  have a:ρ' x=ρ x:=h (i,x) (by simp);simp only [nl,a,m7 λy hy=>h y (eC _ hy)]
theorem se {ρ ρ':Operand->Option V} {x:Option Operand} (h:∀y,x=some y->ρ' y=ρ y):oq ρ' x=oq ρ x:=by
 cases x with
 | none=>rfl
 | some y=>simp only [oq,h y rfl]
theorem K8 {α:Type} {n len:Nat} {h:Option Int} {c:Nat->Option α} {z:α} (a:hiK n len h c=some z):∃m,c m=some z:=by
 unfold hiK at a;split at a
 ·exact ⟨_,a⟩
 ·obtain ⟨m,_,b⟩:=ak a;exact ⟨m,b⟩
theorem Lx {α:Type} {n:Nat} {h:Option Int} {c:Nat->Option α} {z:α} (a:loK n h c=some z):∃m,c m=some z:=by
 unfold loK at a;split at a
 ·exact ⟨_,a⟩
 ·obtain ⟨m,_,b⟩:=ak a;exact ⟨m,b⟩
theorem Bm {α:Type} {t:TypeId} {blk:Blk} {o:Nat} {v:V} {c:Blk->Option α} {z:α} (h:oh P t blk o v c=some z):∃b,c b=some z:=by
 have h':ob (oh P t blk o v some) c=some z:=(pj t blk o v some c).symm.trans h;obtain ⟨b,_,a⟩:=ak h';exact ⟨b,a⟩
theorem Hz {H a:List (Nat×Blk)} {u:V} {m:Nat} {rd:List Nat} (h:slL H u=some (m,rd)) (d:∀b∈rd,look a b=look H b):slL a u=some (m,rd):=by
 unfold slL at h ⊢;split at h
 ·rename_i c;split at h
  case h_2=>cases h
  rename_i tr l e;simp only [ah,bf] at h;obtain ⟨rfl,rfl⟩:=h;simp only [d c (by simp),e]
 ·exact h
 ·cases h
theorem FR {ρ ρ':Operand->Option V} {H Q:List (Nat×Blk)} {f:Nat} {op:Op} {e:Eff} (h:effK P ρ H f op some=some e) (a:∀x∈op.operands.toList,ρ' x=ρ x)
  (B:∀b∈e.rd,look Q b=look H b):effK P ρ' Q f op some=some e:=by
 cases op with
 | load t x=>
  have hx:=a x (by simp [Op.operands]);simp only [effK,hx] at h ⊢;split at h
  ·rename_i b o hp;split at h
   ·rename_i blk g;have r:=h;rw [show (λv=>some ({ val:=some v,rd:=[b] }:Eff))=λv=>ob (some v) λv=>some ({ val:=some v,rd:=[b] }:Eff) from rfl,qI] at r;obtain ⟨v,_,A⟩:=ak r;simp only [ah] at A;have F:=B b (by rw [<-A];simp);simp only [F,g,h]
   ·cases h
  ·rename_i zz b j o hp;split at h
   case h_2=>cases h
   rename_i tr l g;split at h
   case h_2=>cases h
   rename_i D;obtain ⟨xr,K,r⟩:=ak h;have h'':=r;rw [show (λv=>some ({ val:=some v,rd:=[b] }:Eff))=λv=>ob (some v) λv=>some ({ val:=some v,rd:=[b] }:Eff) from rfl,qI] at r;obtain ⟨v,_,A⟩:=ak r;simp only [ah] at A;have F:=B b (by rw [<-A];simp);simp only [F,g,D,K,kQ,h'']
  ·cases h
 | makeSlice t x y=>simp only [effK,a x (by simp [Op.operands]),a y (by simp [Op.operands])] at h ⊢;exact h
 | store t x y=>
  have hx:=a x (by simp [Op.operands]);have hy:=a y (by simp [Op.operands]);simp only [effK,hx,hy] at h ⊢;split at h
  ·rename_i b o hp;obtain ⟨v,E,h⟩:=ak h;split at h
   ·rename_i blk g;have r:=h;rw [show (λk=>some ({ val:=none,rd:=[b],wr:=some (b,k) }:Eff))=λk=>ob (some k) λk=>some ({ val:=none,rd:=[b],wr:=some (b,k) }:Eff) from rfl,pj] at r;obtain ⟨v',_,A⟩:=ak r;simp only [ah] at A;have F:=B b (by rw [<-A];simp);simp only [E,kQ,F,g,h]
   ·cases h
  ·rename_i zz b j o hp;obtain ⟨v,E,r⟩:=ak h;split at r
   case h_2=>cases r
   rename_i tr l g;split at r
   case h_2=>cases r
   rename_i D;obtain ⟨xr,K,I⟩:=ak r;have A:=I;obtain ⟨k,N⟩:=Bm I;split at N
   case h_2=>cases N
   obtain ⟨x',_,O⟩:=ak N;simp only [ah] at O;have F:=B b (by rw [<-O];simp);simp only [E,kQ,F,g,D,K,A]
  ·cases h
 | move x=>simp only [effK,a x (by simp [Op.operands])] at h ⊢;exact h
 | assign x=>simp only [effK,a x (by simp [Op.operands])] at h ⊢;exact h
 | pick c x y=>simp only [effK,a c (by simp [Op.operands]),a x (by simp [Op.operands]),a y (by simp [Op.operands])] at h ⊢;exact h
 | alloc t=>exact h
 | box t x=>simp only [effK,a x (by simp [Op.operands])] at h ⊢;exact h
 | build t T=>
  have:=m7 (ρ:=ρ) (ρ':=ρ') (l:=T.toList) λx hx=>a x.2 (by simp only [Op.operands,dH];exact ⟨x,hx,rfl⟩);simp only [effK,this] at h ⊢;exact h
 | buildSlice t n T=>
  have:=m7 (ρ:=ρ) (ρ':=ρ') (l:=T.toList) λx hx=>a x.2 (by simp only [Op.operands,dH];exact ⟨x,hx,rfl⟩);simp only [effK,this] at h ⊢;exact h
 | nilCheck x=>simp only [effK,a x (by simp [Op.operands])] at h ⊢;exact h
 | binOp o t x y yt=>
  simp only [effK,a x (by simp [Op.operands]),a y (by simp [Op.operands])] at h ⊢;obtain ⟨u,J,h⟩:=ak h;obtain ⟨v,E,h⟩:=ak h;rw [J,E];simp only [kQ];split at h
  ·exact h
  ·split at h
   ·split at h
    case h_2=>cases h
    rename_i m rd X;obtain ⟨W,h⟩:=dh h;have Z:=Hz X λb g=>B b (by rw [<-aU h];exact g);rw [Z];simp only [W,aj];exact h
   ·exact h
 | unOp o t x=>simp only [effK,a x (by simp [Op.operands])] at h ⊢;exact h
 | convert s d x=>
  simp only [effK,a x (by simp [Op.operands])] at h ⊢;obtain ⟨v,E,q⟩:=ak h;rw [E];simp only [kQ];have key:∀b,e.rd=[b]->look Q b=look H b:=λb he=>B b (by rw [he];simp);cases v<;>try exact q
  ·rename_i b;split at q
   case h_2=>cases q
   split at q
   ·cases q
   ·simp only at q ⊢;split at q
    case h_2=>cases q
    split at q
    case h_2=>cases q
    split at q
    case h_2=>cases q
    rename_i g;have C:=q;simp only [ah] at C;rw [key b (by rw [<-C]),g];exact q
   ·split at q<;>cases q
   ·cases q
  ·rename_i zz b j n _;split at q
   case h_2=>cases q
   split at q
   ·cases q
   ·simp only at q ⊢;split at q
    case h_2=>cases q
    split at q
    case h_2=>cases q
    split at q
    case h_2=>cases q
    rename_i g;split at q
    case h_2=>cases q
    rename_i D;obtain ⟨hc,C⟩:=dh q;simp only [ah] at C;rw [key b (by rw [<-C]),g];simp only [D];exact q
   ·split at q<;>cases q
   ·cases q
  ·rename_i b o m cap;split at q
   case h_2=>cases q
   split at q
   ·cases q
   ·simp only at q ⊢;split at q
    case h_2=>cases q
    split at q
    case h_2=>cases q
    split at q
    case h_2=>cases q
    rename_i g;obtain ⟨hc,C⟩:=dh q;simp only [ah] at C;rw [key b (by rw [<-C]),g];exact q
   ·split at q<;>cases q
   ·cases q
 | next x str=>
  have hx:=a x (by simp [Op.operands]);simp only [effK,hx] at h ⊢;split at h
  case h_2=>cases h
  rename_i b hp;split at h
  case h_2=>cases h
  rename_i l pos g;have F:look Q b=look H b:=B b (by
   cases hc:Nat.blt pos l.length<;>rw [hc] at h<;>simp only [aj,af,ah] at h<;>rw [<-h]<;>simp)
  simp only [F,g];exact h
 | makeInterface t x=>simp only [effK,a x (by simp [Op.operands])] at h ⊢;exact h
 | makeFunc fn first cap=>
  have:=lp (ρ:=ρ) (ρ':=ρ') (l:=cap.toList) λx hx=>a x (by simp only [Op.operands,uB,kF];exact .inr hx);have A:=lp (ρ:=ρ) (ρ':=ρ') (l:=first.toList) λx hx=>a x (by simp only [Op.operands,uB,kF];exact .inl hx);simp only [effK,this,A] at h ⊢;exact h
 | slice t x lo hi mx=>
  have I:=a x (by simp [Op.operands]);have A:=se (ρ:=ρ) (ρ':=ρ') (x:=lo) λy hy=>a y (by simp [Op.operands,hy]);have N:=se (ρ:=ρ) (ρ':=ρ') (x:=hi) λy hy=>a y (by simp [Op.operands,hy]);simp only [effK,I,A,N] at h ⊢;cases mx with
  | some m=>
   simp only at h ⊢;have O:=a m (by simp [Op.operands]);cases lo with
   | some _=>exact h
   | none=>
   cases hi with
   | none=>exact h
   | some E=>
   have h5:=a E (by simp [Op.operands]);simp only [rt,I,O,h5] at h ⊢;obtain ⟨u,J,w⟩:=ak h;simp only [J,kQ];clear h;split at w
   case h_2=>cases w
   split at w
   case h_2=>cases w
   split at w
   case h_2=>cases w
   split at w
   ·rename_i b;split at w
    case h_2=>cases w
    rename_i tr l g;split at w
    case h_2=>cases w
    rename_i D;obtain ⟨M,hM,R⟩:=ak w;obtain ⟨L,hL,z⟩:=ak R;have S:=z;simp only [ah] at S;simp only [B b (by rw [<-S];simp),g,D,hM,hL,kQ,z]
   ·exact w
   ·exact w
   ·cases w
  | none=>
  simp only at h ⊢;obtain ⟨u,J,w⟩:=ak h;obtain ⟨l,X,R⟩:=ak w;obtain ⟨hh,U,z⟩:=ak R;simp only [J,X,U,kQ];clear h w R;split at z
  ·exact z
  ·exact z
  ·split at z
   case h_2=>cases z
   cases u<;>try exact z
   case sl=>rename_i cap;cases cap<;>exact z
   rename_i b;simp only at z ⊢;split at z
   case h_2=>cases z
   rename_i tr m g;split at z
   case h_2=>cases z
   rename_i D;obtain ⟨H1,S⟩:=K8 z;obtain ⟨L1,q5⟩:=Lx S;simp only [ah] at q5;rw [B b (by rw [<-q5];simp),g];simp only [D];exact z
  ·cases z
 | makeMap t x=>exact h
 | insert t m x y=>
  simp only [effK,a m (by simp [Op.operands]),a x (by simp [Op.operands]),a y (by simp [Op.operands])] at h ⊢;split at h
  case h_2=>cases h
  rename_i b W;split at h
  case h_2=>cases h
  split at h
  case h_2=>cases h
  split at h
  case h_2=>cases h
  split at h
  case h_2=>cases h
  rename_i k1 l g;split at h
  case h_2=>cases h
  rename_i G;rw [B b (by rw [<-aU h];simp),g];simp only [G];exact h
 | lookup t m x ok=>
  simp only [effK,a m (by simp [Op.operands]),a x (by simp [Op.operands])] at h ⊢;split at h
  case h_2=>cases h
  rename_i b W;split at h
  case h_2=>cases h
  split at h
  case h_2=>cases h
  split at h
  case h_2=>cases h
  split at h
  case h_2=>cases h
  rename_i k1 l g;split at h
  case h_2=>cases h
  rename_i G;have Y:e.rd=[b]:=by
   clear g;revert h;generalize l=l'
   induction l' with
   | nil=>intro h;cases h
   | cons p l ih=>
    intro h;simp only [mapK] at h;revert h;cases (_==p.1) with
    | true=>intro h;rw [<-aU h]
    | false=>exact ih
  rw [B b (by rw [Y];simp),g];simp only [G];exact h
 | fieldAddr t x i=>simp only [effK,a x (by simp [Op.operands])] at h ⊢;exact h
 | field t x i=>simp only [effK,a x (by simp [Op.operands])] at h ⊢;exact h
 | indexAddr t x i=>
  simp only [effK,a x (by simp [Op.operands]),a i (by simp [Op.operands])] at h ⊢;split at h
  case h_2=>cases h
  split at h
  ·exact h
  ·split at h
   ·rename_i hx;first | exact h | (simp only [hx];exact h)
   ·rename_i b hx;split at h
    case h_2=>cases h
    rename_i tr l g;split at h
    case h_2=>cases h
    rename_i D;obtain ⟨j,K,r⟩:=ak h;have A:=r;simp only [ah] at A;simp only [hx,B b (by rw [<-A];simp),g,D,K,kQ,r]
   ·rename_i hx;first | exact h | (simp only [hx];exact h)
   ·cases h
  ·cases h
 | index t x i=>simp only [effK,a x (by simp [Op.operands]),a i (by simp [Op.operands])] at h ⊢;exact h
 | range t x=>simp only [effK,a x (by simp [Op.operands])] at h ⊢;exact h
 | typeAssert x xt at_ ok=>simp only [effK,a x (by simp [Op.operands])] at h ⊢;exact h
 | extract x i=>simp only [effK,a x (by simp [Op.operands])] at h ⊢;exact h
 | call cl=>
  have:=lp (ρ:=ρ) (ρ':=ρ') (l:=cl.args.toList) λx hx=>a x (by simp only [Op.operands,Call.operands,uB,kF];exact .inr hx);simp only [effK,this] at h ⊢;split at h
  case h_2=>cases h
  obtain ⟨args,ha,q⟩:=ak h;simp only [ha,kQ];split at q
  ·split at q
   ·exact q
   ·exact q
   ·exact q
   ·rename_i b;split at q
    case h_2=>cases q
    split at q
    case h_2=>cases q
    split at q
    case h_2=>cases q
    rename_i g;have C:=q;simp only [ah] at C;simp only [B b (by rw [<-C];simp),g, *]
   ·exact q
   ·rename_i x n1 n2 n3 n4 n5;cases x<;>first | exact q | exact absurd rfl (n1 _) | exact absurd rfl (n2 _ _ _ _) | exact absurd rfl n3 | exact absurd rfl (n4 _) | exact absurd rfl (n5 _ _ _ _ _)
   ·cases q
  ·exact q
  ·exact q
  ·exact q
  ·cases q
 | _=>simp [effK] at h
theorem I3 {α:Type} {ρ:Operand->Option V} {H:List (Nat×Blk)} {f:Nat} {op:Op} {c:Eff->Option α} {z:α} (h:effK P ρ H f op c=some z):
  ∃e,effK P ρ H f op some=some e/\c e=some z:=by
 have h':ob (effK P ρ H f op some) c=some z:=(L2 ρ H f op some c).symm.trans h;exact ak h'
theorem zn {a b:Nat} (h:b<=a):max a b=a:=Nat.max_eq_left h
theorem zP {α:Type} {E:List Ent} (hE:∀x∈E,dT P x) {n fr:Nat} {s:St} {o:Oper} (hnb:fr+8<=s.nb) {k:St->List Nat->List (Nat×Blk)->Nat->Option α} {kp:V->St->Option α} {z:α}
  (h:A5 P E n fr o s k kp=some z):
  (∃val wr rd g,k (s.app o.dst val wr s.nb) rd wr g=some z/\∀s':St,(∀x∈o.op.operands.toList,opd s'.T x=opd s.T x)->(∀b∈rd,look s'.H b=look s.H b)->s'.nb=s.nb->s'.ro=s.ro->
   ∀(ι0:Inj) (w0:Base) (ι:Inj) (a:Act) (w:World),Inv n ι0 w0 ι s' a w->(∀b,fr<=b->b<fr+8->ι b=none)->∀(next:Act->World->Prop) (Q:Exit->Act->World->Prop),
    (∀c D w',(∀b,(b<fr\/fr+8<=b)->c b=ι b)->Inv n ι0 w0 c (s'.app o.dst val wr s'.nb) D w'->next D w')->o.wp P a w next Q)\/
  (∃(v:V) (wr:List (Nat×Blk)) (rd:List Nat),kp v (s.app none none wr s.nb)=some z/\∀s':St,(∀x∈o.op.operands.toList,opd s'.T x=opd s.T x)->(∀b∈rd,look s'.H b=look s.H b)->s'.nb=s.nb->s'.ro=s.ro->
   ∀(ι0:Inj) (w0:Base) (ι:Inj) (a:Act) (w:World),Inv n ι0 w0 ι s' a w->(∀b,fr<=b->b<fr+8->ι b=none)->∀(next:Act->World->Prop) (Q:Exit->Act->World->Prop),
    (∀c x w',VR c v x->Inv n ι0 w0 c (s'.app none none wr s'.nb) a w'->Q (.panic [{ v:=x,recovered:=false }]) a w')->o.wp P a w next Q):=by
 unfold A5 at h;split at h
 ·cases h
 rename_i hd;have R:r7 P fr o s k=some z->∃val wr rd g,k (s.app o.dst val wr s.nb) rd wr g=some z/\∀s':St,(∀x∈o.op.operands.toList,opd s'.T x=opd s.T x)->(∀b∈rd,look s'.H b=look s.H b)->s'.nb=s.nb->s'.ro=s.ro->
   ∀(ι0:Inj) (w0:Base) (ι:Inj) (a:Act) (w:World),Inv n ι0 w0 ι s' a w->(∀b,fr<=b->b<fr+8->ι b=none)->∀(next:Act->World->Prop) (Q:Exit->Act->World->Prop),
    (∀c D w',(∀b,(b<fr\/fr+8<=b)->c b=ι b)->Inv n ι0 w0 c (s'.app o.dst val wr s'.nb) D w'->next D w')->o.wp P a w next Q:=by
  intro h;unfold r7 at h;obtain ⟨e,he,S⟩:=I3 h;split at S;rename_i v wr g hne;split at S
  case h_2=>cases S
  rename_i X;simp only [az] at X;have hg8:=aD X.2;have W:nbOf s.nb fr g=s.nb:=by
   cases g with
   | zero=>rfl
   | succ g=>exact zn (by omega)
  rw [W] at S;refine ⟨v,wr,e.rd,g,S,λs' h1 G h3 hro ι0 w0 ι a w B j next Q K=>?_⟩;have hf:=j fr (aM _) (by omega);have he':=FR he h1 G;obtain ⟨e',h4,N⟩:=GE B.tmps B.mem hf he';simp only [ah] at h4;subst h4;refine E3 B hf hd N (λJ bb hw=>by
   have:=X.1;unfold roOK at this;rw [hw] at this;simp only [J] at this;rw [hro];exact aD this) λc D w' I g2 d=>?_
  obtain ⟨ι2,k1,k2⟩:=zD hne d (λb u M Z=>by
   by_cases L:b=fr
   ·subst L;rw [g2 (.inr (Z rfl))];exact hf
   ·rw [I b L];exact j b u (by omega)) (λbb hw J=>fw.new_eq N hw J) (nb:=s'.nb) (by
    split
    ·rw [zn (by omega)];exact aM _
    ·exact aM _) (by omega)
  exact K ι2 D w' (λb hb'=>by rw [k1 b (by omega)];exact I b (by omega)) k2
 split at h
 ·rename_i cl m;split at h
  ·rename_i g p;split at h
   ·rename_i f cap hg;obtain ⟨l,hl,h⟩:=ak h;obtain ⟨r,G,h3⟩:=tl hE h;split at G
    ·cases G
    rename_i A;simp only [az] at A;obtain ⟨A,F,q⟩:=A;have q:r.kill=[]:=by simpa using q
    have A:=aD A;rw [zn (by omega)] at G;split at G
    ·rename_i i;refine .inr ⟨_,_,r.rd,G,λs' u M Z Y ι0 w0 ι a w B j next Q K=>?_⟩;obtain ⟨C,args,tys⟩:=cl;simp only at p;subst p;rw [m] at u;have O:=u g (by simp [Op.operands,Call.operands]);have e5:=lp (ρ:=opd s.T) (ρ':=opd s'.T) (l:=args.toList) λx hx=>u x (by simp only [Op.operands,Call.operands,uB,kF];exact .inr hx);refine yk m B (λb q1 q2=>j b q1 (by omega)) hd (by rw [O];exact hg) (by rw [e5];exact hl) (by rw [Y];exact F) (by rw [q];rfl) (h3 _ M) (λhp=>by rw [hp] at i;cases i) (λ_ c x w' I d=>?_);rw [zn (by omega)] at d;rw [q] at d;exact K c x w' I d
    rename_i i;refine .inl ⟨_,_,_,_,G,λs' u M Z Y ι0 w0 ι a w B j next Q K=>?_⟩;obtain ⟨C,args,tys⟩:=cl;simp only at p;subst p;rw [m] at u;have O:=u g (by simp [Op.operands,Call.operands]);have e5:=lp (ρ:=opd s.T) (ρ':=opd s'.T) (l:=args.toList) λx hx=>u x (by simp only [Op.operands,Call.operands,uB,kF];exact .inr hx);refine yk m B (λb q1 q2=>j b q1 (by omega)) hd (by rw [O];exact hg) (by rw [e5];exact hl) (by rw [Y];exact F) (by rw [q];rfl) (h3 _ M) (λ_ c D w' I d=>?_) (λhp=>by rw [hp] at i;cases i);rw [zn (by omega)] at d;rw [q] at I d;exact K c D w' (λb X=>I b rfl (by omega)) d
   ·cases h
  ·exact .inl (R h)
 ·rename_i x m;split at h
  ·rename_i t v hx;refine .inr ⟨_,[],[],h,λs' u M Z Y ι0 w0 ι a w B j next Q K=>?_⟩;rw [m] at u;have O:=u x (by simp [Op.operands]);have hv:=aZ B.tmps (by rw [O];exact hx);have hv':=hv;simp only [VR] at hv;obtain ⟨y,h6,_⟩:=hv;unfold Oper.wp;have U:(execOp a.eval o).run P w=.halt (.panic (.iface t y)) w:=by
    simp only [execOp,m,h6,Instr.panic,aq,run_goPanic,Result.andThen_halt]
   rw [U];exact K ι _ w (h6▸hv') B
  ·cases h
 ·exact .inl (R h)
end Go.Abs
