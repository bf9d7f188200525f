
/- An operation's effect hangs on what it looks at: the operations of the model.
   Conditions: none; generic over the program. -/
import Derived.Test.YthemneooekobkaaGreatDoorAbsL
set_option linter.unusedVariables false
set_option linter.unusedSimpArgs false
namespace Go.Abs
variable {P:Program}
theorem nX {ρ ρ':Operand->Option V}:∀{l:List Operand},(∀x∈l,ρ' x=ρ x)->opds ρ' l=opds ρ l
 | [],_=>rfl
 | x::l,h=>by
  simp only [opds,h x (by simp),nX λy hy=>h y (f7 _ hy)]
theorem qT {ρ ρ':Operand->Option V}:∀{l:List (Nat×Operand)},(∀x∈l,ρ' x.2=ρ x.2)->qV ρ' l=qV ρ l
 | [],_=>rfl
 | (i,x)::l,h=>by
  have a:ρ' x=ρ x:=h (i,x) (by simp);simp only [qV,a,qT λy hy=>h y (f7 _ hy)]
theorem wk {ρ ρ':Operand->Option V} {x:Option Operand} (h:∀y,x=some y->ρ' y=ρ y):rK ρ' x=rK ρ x:=by
 cases x with
 | none=>rfl
 | some y=>simp only [rK,h y rfl]
theorem PG {α:Type} {n len:Nat} {h:Option Int} {c:Nat->Option α} {z:α} (a:hiK n len h c=some z):∃m,c m=some z:=by
 unfold hiK at a;split at a
 ·exact ⟨_,a⟩
 ·obtain ⟨m,_,b⟩:=ax a;exact ⟨m,b⟩
theorem PR {α:Type} {n:Nat} {h:Option Int} {c:Nat->Option α} {z:α} (a:loK n h c=some z):∃m,c m=some z:=by
 unfold loK at a;split at a
 ·exact ⟨_,a⟩
 ·obtain ⟨m,_,b⟩:=ax a;exact ⟨m,b⟩
theorem Gi {α:Type} {t:TypeId} {blk:Blk} {o:Nat} {v:V} {c:Blk->Option α} {z:α} (h:sA P t blk o v c=some z):∃b,c b=some z:=by
 have h':ob (sA P t blk o v some) c=some z:=(sJ t blk o v some c).symm.trans h;obtain ⟨b,_,a⟩:=ax h';exact ⟨b,a⟩
theorem LR {H a:List (Nat×Blk)} {u:V} {m:Nat} {rd:List Nat} (h:slL H u=some (m,rd)) (d:∀b∈rd,look a b=look H b):slL a u=some (m,rd):=by
 unfold slL at h ⊢;split at h
 ·rename_i c;split at h
  case h_2=>cases h
  rename_i tr l e;simp only [av,bM] at h;obtain ⟨rfl,rfl⟩:=h;simp only [d c (by simp),e]
 ·exact h
 ·cases h
theorem KA {ρ ρ':Operand->Option V} {H S:List (Nat×Blk)} {f:Nat} {op:Op} {e:Eff} (h:effK P ρ H f op some=some e) (a:∀x∈op.operands.toList,ρ' x=ρ x)
  (B:∀b∈e.rd,look S b=look H b):effK P ρ' S f op some=some e:=by
 cases op with
 | load t x=>
  have hx:=a x (by simp [Op.operands]);simp only [effK,hx] at h ⊢;split at h
  ·rename_i b o hp;split at h
   ·rename_i blk g;have z:=h;rw [show (λv=>some ({ val:=some v,rd:=[b] }:Eff))=λv=>ob (some v) λv=>some ({ val:=some v,rd:=[b] }:Eff) from rfl,uY] at z;obtain ⟨v,_,A⟩:=ax z;simp only [av] at A;have F:=B b (by rw [<-A];simp);simp only [F,g,h]
   ·cases h
  ·rename_i zz b j o hp;split at h
   case h_2=>cases h
   rename_i tr l g;split at h
   case h_2=>cases h
   rename_i C;obtain ⟨xr,N,z⟩:=ax h;have h'':=z;rw [show (λv=>some ({ val:=some v,rd:=[b] }:Eff))=λv=>ob (some v) λv=>some ({ val:=some v,rd:=[b] }:Eff) from rfl,uY] at z;obtain ⟨v,_,A⟩:=ax z;simp only [av] at A;have F:=B b (by rw [<-A];simp);simp only [F,g,C,N,nE,h'']
  ·cases h
 | makeSlice t x y=>simp only [effK,a x (by simp [Op.operands]),a y (by simp [Op.operands])] at h ⊢;exact h
 | store t x y=>
  have hx:=a x (by simp [Op.operands]);have hy:=a y (by simp [Op.operands]);simp only [effK,hx,hy] at h ⊢;split at h
  ·rename_i b o hp;obtain ⟨v,E,h⟩:=ax h;split at h
   ·rename_i blk g;have z:=h;rw [show (λk=>some ({ val:=none,rd:=[b],wr:=some (b,k) }:Eff))=λk=>ob (some k) λk=>some ({ val:=none,rd:=[b],wr:=some (b,k) }:Eff) from rfl,sJ] at z;obtain ⟨v',_,A⟩:=ax z;simp only [av] at A;have F:=B b (by rw [<-A];simp);simp only [E,nE,F,g,h]
   ·cases h
  ·rename_i zz b j o hp;obtain ⟨v,E,z⟩:=ax h;split at z
   case h_2=>cases z
   rename_i tr l g;split at z
   case h_2=>cases z
   rename_i C;obtain ⟨xr,N,I⟩:=ax z;have A:=I;obtain ⟨k,K⟩:=Gi I;split at K
   case h_2=>cases K
   obtain ⟨x',_,O⟩:=ax K;simp only [av] at O;have F:=B b (by rw [<-O];simp);simp only [E,nE,F,g,C,N,A]
  ·cases h
 | move x=>simp only [effK,a x (by simp [Op.operands])] at h ⊢;exact h
 | assign x=>simp only [effK,a x (by simp [Op.operands])] at h ⊢;exact h
 | pick c x y=>simp only [effK,a c (by simp [Op.operands]),a x (by simp [Op.operands]),a y (by simp [Op.operands])] at h ⊢;exact h
 | alloc t=>exact h
 | box t x=>simp only [effK,a x (by simp [Op.operands])] at h ⊢;exact h
 | build t X=>
  have:=qT (ρ:=ρ) (ρ':=ρ') (l:=X.toList) λx hx=>a x.2 (by simp only [Op.operands,eG];exact ⟨x,hx,rfl⟩);simp only [effK,this] at h ⊢;exact h
 | buildSlice t n X=>
  have:=qT (ρ:=ρ) (ρ':=ρ') (l:=X.toList) λx hx=>a x.2 (by simp only [Op.operands,eG];exact ⟨x,hx,rfl⟩);simp only [effK,this] at h ⊢;exact h
 | nilCheck x=>simp only [effK,a x (by simp [Op.operands])] at h ⊢;exact h
 | binOp o t x y yt=>
  simp only [effK,a x (by simp [Op.operands]),a y (by simp [Op.operands])] at h ⊢;obtain ⟨u,J,h⟩:=ax h;obtain ⟨v,E,h⟩:=ax h;rw [J,E];simp only [nE];split at h
  ·exact h
  ·split at h
   ·split at h
    case h_2=>cases h
    rename_i m rd Y;obtain ⟨T,h⟩:=dZ h;have Z:=LR Y λb g=>B b (by rw [<-bm h];exact g);rw [Z];simp only [T,ah];exact h
   ·exact h
 | unOp o t x=>simp only [effK,a x (by simp [Op.operands])] at h ⊢;exact h
 | convert s d x=>
  simp only [effK,a x (by simp [Op.operands])] at h ⊢;obtain ⟨v,E,q⟩:=ax h;rw [E];simp only [nE];have key:∀b,e.rd=[b]->look S b=look H b:=λb he=>B b (by rw [he];simp);cases v<;>try exact q
  ·rename_i b;split at q
   case h_2=>cases q
   split at q
   ·cases q
   ·simp only at q ⊢;split at q
    case h_2=>cases q
    split at q
    case h_2=>cases q
    split at q
    case h_2=>cases q
    rename_i g;have D:=q;simp only [av] at D;rw [key b (by rw [<-D]),g];exact q
   ·split at q<;>cases q
   ·cases q
  ·rename_i zz b j n _;split at q
   case h_2=>cases q
   split at q
   ·cases q
   ·simp only at q ⊢;split at q
    case h_2=>cases q
    split at q
    case h_2=>cases q
    split at q
    case h_2=>cases q
    rename_i g;split at q
    case h_2=>cases q
    rename_i C;obtain ⟨hc,D⟩:=dZ q;simp only [av] at D;rw [key b (by rw [<-D]),g];simp only [C];exact q
   ·split at q<;>cases q
   ·cases q
  ·rename_i b o m cap;split at q
   case h_2=>cases q
   split at q
   ·cases q
   ·simp only at q ⊢;split at q
    case h_2=>cases q
    split at q
    case h_2=>cases q
    split at q
    case h_2=>cases q
    rename_i g;obtain ⟨hc,D⟩:=dZ q;simp only [av] at D;rw [key b (by rw [<-D]),g];exact q
   ·split at q<;>cases q
   ·cases q
 | next x str=>
  have hx:=a x (by simp [Op.operands]);simp only [effK,hx] at h ⊢;split at h
  case h_2=>cases h
  rename_i b hp;split at h
  case h_2=>cases h
  rename_i l pos g;have F:look S b=look H b:=B b (by
   cases hc:Nat.blt pos l.length<;>rw [hc] at h<;>simp only [ah,af,av] at h<;>rw [<-h]<;>simp)
  simp only [F,g];exact h
 | makeInterface t x=>simp only [effK,a x (by simp [Op.operands])] at h ⊢;exact h
 | makeFunc fn first cap=>
  have:=nX (ρ:=ρ) (ρ':=ρ') (l:=cap.toList) λx hx=>a x (by simp only [Op.operands,xc,lg];exact .inr hx);have A:=nX (ρ:=ρ) (ρ':=ρ') (l:=first.toList) λx hx=>a x (by simp only [Op.operands,xc,lg];exact .inl hx);simp only [effK,this,A] at h ⊢;exact h
 | slice t x lo hi mx=>
  have I:=a x (by simp [Op.operands]);have A:=wk (ρ:=ρ) (ρ':=ρ') (x:=lo) λy hy=>a y (by simp [Op.operands,hy]);have K:=wk (ρ:=ρ) (ρ':=ρ') (x:=hi) λy hy=>a y (by simp [Op.operands,hy]);simp only [effK,I,A,K] at h ⊢;cases mx with
  | some m=>
   simp only at h ⊢;have O:=a m (by simp [Op.operands]);cases lo with
   | some _=>exact h
   | none=>
   cases hi with
   | none=>exact h
   | some E=>
   have h5:=a E (by simp [Op.operands]);simp only [vO,I,O,h5] at h ⊢;obtain ⟨u,J,r⟩:=ax h;simp only [J,nE];clear h;split at r
   case h_2=>cases r
   split at r
   case h_2=>cases r
   split at r
   case h_2=>cases r
   split at r
   ·rename_i b;split at r
    case h_2=>cases r
    rename_i tr l g;split at r
    case h_2=>cases r
    rename_i C;obtain ⟨M,hM,R⟩:=ax r;obtain ⟨L,hL,w⟩:=ax R;have Q:=w;simp only [av] at Q;simp only [B b (by rw [<-Q];simp),g,C,hM,hL,nE,w]
   ·exact r
   ·exact r
   ·cases r
  | none=>
  simp only at h ⊢;obtain ⟨u,J,r⟩:=ax h;obtain ⟨l,Y,R⟩:=ax r;obtain ⟨hh,W,w⟩:=ax R;simp only [J,Y,W,nE];clear h r R;split at w
  ·exact w
  ·exact w
  ·split at w
   case h_2=>cases w
   cases u<;>try exact w
   case sl=>rename_i cap;cases cap<;>exact w
   rename_i b;simp only at w ⊢;split at w
   case h_2=>cases w
   rename_i tr m g;split at w
   case h_2=>cases w
   rename_i C;obtain ⟨H1,Q⟩:=PG w;obtain ⟨L1,q5⟩:=PR Q;simp only [av] at q5;rw [B b (by rw [<-q5];simp),g];simp only [C];exact w
  ·cases w
 | makeMap t x=>exact h
 | insert t m x y=>
  simp only [effK,a m (by simp [Op.operands]),a x (by simp [Op.operands]),a y (by simp [Op.operands])] at h ⊢;split at h
  case h_2=>cases h
  rename_i b T;split at h
  case h_2=>cases h
  split at h
  case h_2=>cases h
  split at h
  case h_2=>cases h
  split at h
  case h_2=>cases h
  rename_i k1 l g;split at h
  case h_2=>cases h
  rename_i G;rw [B b (by rw [<-bm h];simp),g];simp only [G];exact h
 | lookup t m x ok=>
  simp only [effK,a m (by simp [Op.operands]),a x (by simp [Op.operands])] at h ⊢;split at h
  case h_2=>cases h
  rename_i b T;split at h
  case h_2=>cases h
  split at h
  case h_2=>cases h
  split at h
  case h_2=>cases h
  split at h
  case h_2=>cases h
  rename_i k1 l g;split at h
  case h_2=>cases h
  rename_i G;have U:e.rd=[b]:=by
   clear g;revert h;generalize l=l'
   induction l' with
   | nil=>intro h;cases h
   | cons p l ih=>
    intro h;simp only [mapK] at h;revert h;cases (_==p.1) with
    | true=>intro h;rw [<-bm h]
    | false=>exact ih
  rw [B b (by rw [U];simp),g];simp only [G];exact h
 | fieldAddr t x i=>simp only [effK,a x (by simp [Op.operands])] at h ⊢;exact h
 | field t x i=>simp only [effK,a x (by simp [Op.operands])] at h ⊢;exact h
 | indexAddr t x i=>
  simp only [effK,a x (by simp [Op.operands]),a i (by simp [Op.operands])] at h ⊢;split at h
  case h_2=>cases h
  split at h
  ·exact h
  ·split at h
   ·rename_i hx;first | exact h | (simp only [hx];exact h)
   ·rename_i b hx;split at h
    case h_2=>cases h
    rename_i tr l g;split at h
    case h_2=>cases h
    rename_i C;obtain ⟨j,N,z⟩:=ax h;have A:=z;simp only [av] at A;simp only [hx,B b (by rw [<-A];simp),g,C,N,nE,z]
   ·rename_i hx;first | exact h | (simp only [hx];exact h)
   ·cases h
  ·cases h
 | index t x i=>simp only [effK,a x (by simp [Op.operands]),a i (by simp [Op.operands])] at h ⊢;exact h
 | range t x=>simp only [effK,a x (by simp [Op.operands])] at h ⊢;exact h
 | typeAssert x xt at_ ok=>simp only [effK,a x (by simp [Op.operands])] at h ⊢;exact h
 | extract x i=>simp only [effK,a x (by simp [Op.operands])] at h ⊢;exact h
 | call cl=>
  have:=nX (ρ:=ρ) (ρ':=ρ') (l:=cl.args.toList) λx hx=>a x (by simp only [Op.operands,Call.operands,xc,lg];exact .inr hx);simp only [effK,this] at h ⊢;split at h
  case h_2=>cases h
  obtain ⟨args,ha,q⟩:=ax h;simp only [ha,nE];split at q
  ·split at q
   ·exact q
   ·exact q
   ·exact q
   ·rename_i b;split at q
    case h_2=>cases q
    split at q
    case h_2=>cases q
    split at q
    case h_2=>cases q
    rename_i g;have D:=q;simp only [av] at D;simp only [B b (by rw [<-D];simp),g, *]
   ·exact q
   ·rename_i x n1 n2 n3 n4 n5;cases x<;>first | exact q | exact absurd rfl (n1 _) | exact absurd rfl (n2 _ _ _ _) | exact absurd rfl n3 | exact absurd rfl (n4 _) | exact absurd rfl (n5 _ _ _ _ _)
   ·cases q
  ·exact q
  ·exact q
  ·exact q
  ·cases q
 | _=>simp [effK] at h
theorem NR {α:Type} {ρ:Operand->Option V} {H:List (Nat×Blk)} {f:Nat} {op:Op} {c:Eff->Option α} {z:α} (h:effK P ρ H f op c=some z):
  ∃e,effK P ρ H f op some=some e/\c e=some z:=by
 have h':ob (effK P ρ H f op some) c=some z:=(Q7 ρ H f op some c).symm.trans h;exact ax h'
theorem Dl {a b:Nat} (h:b<=a):max a b=a:=Nat.max_eq_left h
theorem EI {α:Type} {E:List Ent} (hE:∀x∈E,fM P x) {n fr:Nat} {s:St} {o:Oper} (hnb:fr+8<=s.nb) {k:St->List Nat->List (Nat×Blk)->Nat->Option α} {kp:V->St->Option α} {z:α}
  (h:Fj P E n fr o s k kp=some z):
  (∃val wr rd g,k (s.app o.dst val wr s.nb) rd wr g=some z/\∀s':St,(∀x∈o.op.operands.toList,opd s'.T x=opd s.T x)->(∀b∈rd,look s'.H b=look s.H b)->s'.nb=s.nb->s'.ro=s.ro->
   ∀(ι0:Inj) (w0:Base) (ι:Inj) (a:Act) (w:World),Inv n ι0 w0 ι s' a w->(∀b,fr<=b->b<fr+8->ι b=none)->∀(next:Act->World->Prop) (Q:Exit->Act->World->Prop),
    (∀c D w',(∀b,(b<fr\/fr+8<=b)->c b=ι b)->Inv n ι0 w0 c (s'.app o.dst val wr s'.nb) D w'->next D w')->o.wp P a w next Q)\/
  (∃(v:V) (wr:List (Nat×Blk)) (rd:List Nat),kp v (s.app none none wr s.nb)=some z/\∀s':St,(∀x∈o.op.operands.toList,opd s'.T x=opd s.T x)->(∀b∈rd,look s'.H b=look s.H b)->s'.nb=s.nb->s'.ro=s.ro->
   ∀(ι0:Inj) (w0:Base) (ι:Inj) (a:Act) (w:World),Inv n ι0 w0 ι s' a w->(∀b,fr<=b->b<fr+8->ι b=none)->∀(next:Act->World->Prop) (Q:Exit->Act->World->Prop),
    (∀c x w',VR c v x->Inv n ι0 w0 c (s'.app none none wr s'.nb) a w'->Q (.panic [{ v:=x,recovered:=false }]) a w')->o.wp P a w next Q):=by
 unfold Fj at h;split at h
 ·cases h
 rename_i hd;have S:vz P fr o s k=some z->∃val wr rd g,k (s.app o.dst val wr s.nb) rd wr g=some z/\∀s':St,(∀x∈o.op.operands.toList,opd s'.T x=opd s.T x)->(∀b∈rd,look s'.H b=look s.H b)->s'.nb=s.nb->s'.ro=s.ro->
   ∀(ι0:Inj) (w0:Base) (ι:Inj) (a:Act) (w:World),Inv n ι0 w0 ι s' a w->(∀b,fr<=b->b<fr+8->ι b=none)->∀(next:Act->World->Prop) (Q:Exit->Act->World->Prop),
    (∀c D w',(∀b,(b<fr\/fr+8<=b)->c b=ι b)->Inv n ι0 w0 c (s'.app o.dst val wr s'.nb) D w'->next D w')->o.wp P a w next Q:=by
  intro h;unfold vz at h;obtain ⟨e,he,M⟩:=NR h;split at M;rename_i v wr g hne;split at M
  case h_2=>cases M
  rename_i X;simp only [az] at X;have hg8:=aL X.2;have U:nbOf s.nb fr g=s.nb:=by
   cases g with
   | zero=>rfl
   | succ g=>exact Dl (by omega)
  rw [U] at M;refine ⟨v,wr,e.rd,g,M,λs' h1 F h3 hro ι0 w0 ι a w B j next Q K=>?_⟩;have hf:=j fr (aX _) (by omega);have he':=KA he h1 F;obtain ⟨e',h4,N⟩:=Og B.tmps B.mem hf he';simp only [av] at h4;subst h4;refine Ie B hf hd N (λJ bb hw=>by
   have:=X.1;unfold roOK at this;rw [hw] at this;simp only [J] at this;rw [hro];exact aL this) λc D w' I g2 d=>?_
  obtain ⟨ι2,k1,k2⟩:=DG hne d (λb u W Y=>by
   by_cases O:b=fr
   ·subst O;rw [g2 (.inr (Y rfl))];exact hf
   ·rw [I b O];exact j b u (by omega)) (λbb hw J=>gR.new_eq N hw J) (nb:=s'.nb) (by
    split
    ·rw [Dl (by omega)];exact aX _
    ·exact aX _) (by omega)
  exact K ι2 D w' (λb hb'=>by rw [k1 b (by omega)];exact I b (by omega)) k2
 split at h
 ·rename_i cl m;split at h
  ·rename_i g p;split at h
   ·rename_i f cap hg;obtain ⟨l,hl,h⟩:=ax h;obtain ⟨r,F,h3⟩:=wW hE h;split at F
    ·cases F
    rename_i A;simp only [az] at A;obtain ⟨A,G,q⟩:=A;have q:r.kill=[]:=by simpa using q
    have A:=aL A;rw [Dl (by omega)] at F;split at F
    ·rename_i i;refine .inr ⟨_,_,r.rd,F,λs' u W Y Z ι0 w0 ι a w B j next Q K=>?_⟩;obtain ⟨C,args,tys⟩:=cl;simp only at p;subst p;rw [m] at u;have R:=u g (by simp [Op.operands,Call.operands]);have e5:=nX (ρ:=opd s.T) (ρ':=opd s'.T) (l:=args.toList) λx hx=>u x (by simp only [Op.operands,Call.operands,xc,lg];exact .inr hx);refine C0 m B (λb q1 q2=>j b q1 (by omega)) hd (by rw [R];exact hg) (by rw [e5];exact hl) (by rw [Z];exact G) (by rw [q];rfl) (h3 _ W) (λhp=>by rw [hp] at i;cases i) (λ_ c x w' I d=>?_);rw [Dl (by omega)] at d;rw [q] at d;exact K c x w' I d
    rename_i i;refine .inl ⟨_,_,_,_,F,λs' u W Y Z ι0 w0 ι a w B j next Q K=>?_⟩;obtain ⟨C,args,tys⟩:=cl;simp only at p;subst p;rw [m] at u;have R:=u g (by simp [Op.operands,Call.operands]);have e5:=nX (ρ:=opd s.T) (ρ':=opd s'.T) (l:=args.toList) λx hx=>u x (by simp only [Op.operands,Call.operands,xc,lg];exact .inr hx);refine C0 m B (λb q1 q2=>j b q1 (by omega)) hd (by rw [R];exact hg) (by rw [e5];exact hl) (by rw [Z];exact G) (by rw [q];rfl) (h3 _ W) (λ_ c D w' I d=>?_) (λhp=>by rw [hp] at i;cases i);rw [Dl (by omega)] at d;rw [q] at I d;exact K c D w' (λb X=>I b rfl (by omega)) d
   ·cases h
  ·exact .inl (S h)
 ·rename_i x m;split at h
  ·rename_i t v hx;refine .inr ⟨_,[],[],h,λs' u W Y Z ι0 w0 ι a w B j next Q K=>?_⟩;rw [m] at u;have R:=u x (by simp [Op.operands]);have hv:=bu B.tmps (by rw [R];exact hx);have hv':=hv;simp only [VR] at hv;obtain ⟨y,h6,_⟩:=hv;unfold Oper.wp;have L:(execOp a.eval o).run P w=.halt (.panic (.iface t y)) w:=by
    simp only [execOp,m,h6,Instr.panic,ay,run_goPanic,Result.andThen_halt]
   rw [L];exact K ι _ w (h6▸hv') B
  ·cases h
 ·exact .inl (S h)
end Go.Abs
