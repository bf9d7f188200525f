
/- An operation's effect hangs on what it looks at: the operations of the model.
   Conditions: none; generic over the program. -/
import Derived.Test.YtfiponokimbeeaaGreatDoorAbsL
set_option linter.unusedVariables false
set_option linter.unusedSimpArgs false
namespace Go.Abs
variable {P:Program}
theorem mh {ρ ρ':Operand->Option V}:∀{l:List Operand},(∀x∈l,ρ' x=ρ x)->opds ρ' l=opds ρ l
 | [],_=>rfl
 | x::l,h=>by
  simp only [opds,h x (by simp),mh λy hy=>h y (eO _ hy)]
theorem oZ {ρ ρ':Operand->Option V}:∀{l:List (Nat×Operand)},(∀x∈l,ρ' x.2=ρ x.2)->oU ρ' l=oU ρ l
 | [],_=>rfl
 | (i,x)::l,h=>by
  have a:ρ' x=ρ x:=h (i,x) (by simp);simp only [oU,a,oZ λy hy=>h y (eO _ hy)]
theorem uv {ρ ρ':Operand->Option V} {x:Option Operand} (h:∀y,x=some y->ρ' y=ρ y):qf ρ' x=qf ρ x:=by
 cases x with
 | none=>rfl
 | some y=>simp only [qf,h y rfl]
theorem M8 {α:Type} {n len:Nat} {h:Option Int} {c:Nat->Option α} {z:α} (a:hiK n len h c=some z):∃m,c m=some z:=by
 unfold hiK at a;split at a
 ·exact ⟨_,a⟩
 ·obtain ⟨m,_,b⟩:=ar a;exact ⟨m,b⟩
theorem LD {α:Type} {n:Nat} {h:Option Int} {c:Nat->Option α} {z:α} (a:loK n h c=some z):∃m,c m=some z:=by
 unfold loK at a;split at a
 ·exact ⟨_,a⟩
 ·obtain ⟨m,_,b⟩:=ar a;exact ⟨m,b⟩
theorem Ed {α:Type} {t:TypeId} {blk:Blk} {o:Nat} {v:V} {c:Blk->Option α} {z:α} (h:qE P t blk o v c=some z):∃b,c b=some z:=by
 have h':ob (qE P t blk o v some) c=some z:=(rf t blk o v some c).symm.trans h;obtain ⟨b,_,a⟩:=ar h';exact ⟨b,a⟩
theorem Jc {H a:List (Nat×Blk)} {u:V} {m:Nat} {rd:List Nat} (h:slL H u=some (m,rd)) (d:∀b∈rd,look a b=look H b):slL a u=some (m,rd):=by
 unfold slL at h ⊢;split at h
 ·rename_i c;split at h
  case h_2=>cases h
  rename_i tr l e;simp only [ak,bE] at h;obtain ⟨rfl,rfl⟩:=h;simp only [d c (by simp),e]
 ·exact h
 ·cases h
theorem GR {ρ ρ':Operand->Option V} {H R:List (Nat×Blk)} {f:Nat} {op:Op} {e:Eff} (h:effK P ρ H f op some=some e) (a:∀x∈op.operands.toList,ρ' x=ρ x)
  (B:∀b∈e.rd,look R b=look H b):effK P ρ' R f op some=some e:=by
 cases op with
 | load t x=>
  have hx:=a x (by simp [Op.operands]);simp only [effK,hx] at h ⊢;split at h
  ·rename_i b o hp;split at h
   ·rename_i blk g;have w:=h;rw [show (λv=>some ({ val:=some v,rd:=[b] }:Eff))=λv=>ob (some v) λv=>some ({ val:=some v,rd:=[b] }:Eff) from rfl,tg] at w;obtain ⟨v,_,A⟩:=ar w;simp only [ak] at A;have E:=B b (by rw [<-A];simp);simp only [E,g,h]
   ·cases h
  ·rename_i zz b j o hp;split at h
   case h_2=>cases h
   rename_i tr l g;split at h
   case h_2=>cases h
   rename_i C;obtain ⟨xr,K,w⟩:=ar h;have h'':=w;rw [show (λv=>some ({ val:=some v,rd:=[b] }:Eff))=λv=>ob (some v) λv=>some ({ val:=some v,rd:=[b] }:Eff) from rfl,tg] at w;obtain ⟨v,_,A⟩:=ar w;simp only [ak] at A;have E:=B b (by rw [<-A];simp);simp only [E,g,C,K,lI,h'']
  ·cases h
 | makeSlice t x y=>simp only [effK,a x (by simp [Op.operands]),a y (by simp [Op.operands])] at h ⊢;exact h
 | store t x y=>
  have hx:=a x (by simp [Op.operands]);have hy:=a y (by simp [Op.operands]);simp only [effK,hx,hy] at h ⊢;split at h
  ·rename_i b o hp;obtain ⟨v,F,h⟩:=ar h;split at h
   ·rename_i blk g;have w:=h;rw [show (λk=>some ({ val:=none,rd:=[b],wr:=some (b,k) }:Eff))=λk=>ob (some k) λk=>some ({ val:=none,rd:=[b],wr:=some (b,k) }:Eff) from rfl,rf] at w;obtain ⟨v',_,A⟩:=ar w;simp only [ak] at A;have E:=B b (by rw [<-A];simp);simp only [F,lI,E,g,h]
   ·cases h
  ·rename_i zz b j o hp;obtain ⟨v,F,w⟩:=ar h;split at w
   case h_2=>cases w
   rename_i tr l g;split at w
   case h_2=>cases w
   rename_i C;obtain ⟨xr,K,J⟩:=ar w;have A:=J;obtain ⟨k,I⟩:=Ed J;split at I
   case h_2=>cases I
   obtain ⟨x',_,Q⟩:=ar I;simp only [ak] at Q;have E:=B b (by rw [<-Q];simp);simp only [F,lI,E,g,C,K,A]
  ·cases h
 | move x=>simp only [effK,a x (by simp [Op.operands])] at h ⊢;exact h
 | assign x=>simp only [effK,a x (by simp [Op.operands])] at h ⊢;exact h
 | pick c x y=>simp only [effK,a c (by simp [Op.operands]),a x (by simp [Op.operands]),a y (by simp [Op.operands])] at h ⊢;exact h
 | alloc t=>exact h
 | box t x=>simp only [effK,a x (by simp [Op.operands])] at h ⊢;exact h
 | build t Z=>
  have:=oZ (ρ:=ρ) (ρ':=ρ') (l:=Z.toList) λx hx=>a x.2 (by simp only [Op.operands,fq];exact ⟨x,hx,rfl⟩);simp only [effK,this] at h ⊢;exact h
 | buildSlice t n Z=>
  have:=oZ (ρ:=ρ) (ρ':=ρ') (l:=Z.toList) λx hx=>a x.2 (by simp only [Op.operands,fq];exact ⟨x,hx,rfl⟩);simp only [effK,this] at h ⊢;exact h
 | nilCheck x=>simp only [effK,a x (by simp [Op.operands])] at h ⊢;exact h
 | binOp o t x y yt=>
  simp only [effK,a x (by simp [Op.operands]),a y (by simp [Op.operands])] at h ⊢;obtain ⟨u,N,h⟩:=ar h;obtain ⟨v,F,h⟩:=ar h;rw [N,F];simp only [lI];split at h
  ·exact h
  ·split at h
   ·split at h
    case h_2=>cases h
    rename_i m rd U;obtain ⟨X,h⟩:=dG h;have T:=Jc U λb g=>B b (by rw [<-ba h];exact g);rw [T];simp only [X,aj];exact h
   ·exact h
 | unOp o t x=>simp only [effK,a x (by simp [Op.operands])] at h ⊢;exact h
 | convert s d x=>
  simp only [effK,a x (by simp [Op.operands])] at h ⊢;obtain ⟨v,F,q⟩:=ar h;rw [F];simp only [lI];have key:∀b,e.rd=[b]->look R b=look H b:=λb he=>B b (by rw [he];simp);cases v<;>try exact q
  ·rename_i b;split at q
   case h_2=>cases q
   split at q
   ·cases q
   ·simp only at q ⊢;split at q
    case h_2=>cases q
    split at q
    case h_2=>cases q
    split at q
    case h_2=>cases q
    rename_i g;have D:=q;simp only [ak] at D;rw [key b (by rw [<-D]),g];exact q
   ·split at q<;>cases q
   ·cases q
  ·rename_i zz b j n _;split at q
   case h_2=>cases q
   split at q
   ·cases q
   ·simp only at q ⊢;split at q
    case h_2=>cases q
    split at q
    case h_2=>cases q
    split at q
    case h_2=>cases q
    rename_i g;split at q
    case h_2=>cases q
    rename_i C;obtain ⟨hc,D⟩:=dG q;simp only [ak] at D;rw [key b (by rw [<-D]),g];simp only [C];exact q
   ·split at q<;>cases q
   ·cases q
  ·rename_i b o m cap;split at q
   case h_2=>cases q
   split at q
   ·cases q
   ·simp only at q ⊢;split at q
    case h_2=>cases q
    split at q
    case h_2=>cases q
    split at q
    case h_2=>cases q
    rename_i g;obtain ⟨hc,D⟩:=dG q;simp only [ak] at D;rw [key b (by rw [<-D]),g];exact q
   ·split at q<;>cases q
   ·cases q
 | next x str=>
  have hx:=a x (by simp [Op.operands]);simp only [effK,hx] at h ⊢;split at h
  case h_2=>cases h
  rename_i b hp;split at h
  case h_2=>cases h
  rename_i l pos g;have E:look R b=look H b:=B b (by
   cases hc:Nat.blt pos l.length<;>rw [hc] at h<;>simp only [aj,ah,ak] at h<;>rw [<-h]<;>simp)
  simp only [E,g];exact h
 | makeInterface t x=>simp only [effK,a x (by simp [Op.operands])] at h ⊢;exact h
 | makeFunc fn first cap=>
  have:=mh (ρ:=ρ) (ρ':=ρ') (l:=cap.toList) λx hx=>a x (by simp only [Op.operands,wF,mX];exact .inr hx);have A:=mh (ρ:=ρ) (ρ':=ρ') (l:=first.toList) λx hx=>a x (by simp only [Op.operands,wF,mX];exact .inl hx);simp only [effK,this,A] at h ⊢;exact h
 | slice t x lo hi mx=>
  have J:=a x (by simp [Op.operands]);have A:=uv (ρ:=ρ) (ρ':=ρ') (x:=lo) λy hy=>a y (by simp [Op.operands,hy]);have I:=uv (ρ:=ρ) (ρ':=ρ') (x:=hi) λy hy=>a y (by simp [Op.operands,hy]);simp only [effK,J,A,I] at h ⊢;cases mx with
  | some m=>
   simp only at h ⊢;have Q:=a m (by simp [Op.operands]);cases lo with
   | some _=>exact h
   | none=>
   cases hi with
   | none=>exact h
   | some F=>
   have h5:=a F (by simp [Op.operands]);simp only [ug,J,Q,h5] at h ⊢;obtain ⟨u,N,z⟩:=ar h;simp only [N,lI];clear h;split at z
   case h_2=>cases z
   split at z
   case h_2=>cases z
   split at z
   case h_2=>cases z
   split at z
   ·rename_i b;split at z
    case h_2=>cases z
    rename_i tr l g;split at z
    case h_2=>cases z
    rename_i C;obtain ⟨M,hM,S⟩:=ar z;obtain ⟨L,hL,r⟩:=ar S;have O:=r;simp only [ak] at O;simp only [B b (by rw [<-O];simp),g,C,hM,hL,lI,r]
   ·exact z
   ·exact z
   ·cases z
  | none=>
  simp only at h ⊢;obtain ⟨u,N,z⟩:=ar h;obtain ⟨l,U,S⟩:=ar z;obtain ⟨hh,W,r⟩:=ar S;simp only [N,U,W,lI];clear h z S;split at r
  ·exact r
  ·exact r
  ·split at r
   case h_2=>cases r
   cases u<;>try exact r
   case sl=>rename_i cap;cases cap<;>exact r
   rename_i b;simp only at r ⊢;split at r
   case h_2=>cases r
   rename_i tr m g;split at r
   case h_2=>cases r
   rename_i C;obtain ⟨H1,O⟩:=M8 r;obtain ⟨L1,q5⟩:=LD O;simp only [ak] at q5;rw [B b (by rw [<-q5];simp),g];simp only [C];exact r
  ·cases r
 | makeMap t x=>exact h
 | insert t m x y=>
  simp only [effK,a m (by simp [Op.operands]),a x (by simp [Op.operands]),a y (by simp [Op.operands])] at h ⊢;split at h
  case h_2=>cases h
  rename_i b X;split at h
  case h_2=>cases h
  split at h
  case h_2=>cases h
  split at h
  case h_2=>cases h
  split at h
  case h_2=>cases h
  rename_i k1 l g;split at h
  case h_2=>cases h
  rename_i G;rw [B b (by rw [<-ba h];simp),g];simp only [G];exact h
 | lookup t m x ok=>
  simp only [effK,a m (by simp [Op.operands]),a x (by simp [Op.operands])] at h ⊢;split at h
  case h_2=>cases h
  rename_i b X;split at h
  case h_2=>cases h
  split at h
  case h_2=>cases h
  split at h
  case h_2=>cases h
  split at h
  case h_2=>cases h
  rename_i k1 l g;split at h
  case h_2=>cases h
  rename_i G;have Y:e.rd=[b]:=by
   clear g;revert h;generalize l=l'
   induction l' with
   | nil=>intro h;cases h
   | cons p l ih=>
    intro h;simp only [mapK] at h;revert h;cases (_==p.1) with
    | true=>intro h;rw [<-ba h]
    | false=>exact ih
  rw [B b (by rw [Y];simp),g];simp only [G];exact h
 | fieldAddr t x i=>simp only [effK,a x (by simp [Op.operands])] at h ⊢;exact h
 | field t x i=>simp only [effK,a x (by simp [Op.operands])] at h ⊢;exact h
 | indexAddr t x i=>
  simp only [effK,a x (by simp [Op.operands]),a i (by simp [Op.operands])] at h ⊢;split at h
  case h_2=>cases h
  split at h
  ·exact h
  ·split at h
   ·rename_i hx;first | exact h | (simp only [hx];exact h)
   ·rename_i b hx;split at h
    case h_2=>cases h
    rename_i tr l g;split at h
    case h_2=>cases h
    rename_i C;obtain ⟨j,K,w⟩:=ar h;have A:=w;simp only [ak] at A;simp only [hx,B b (by rw [<-A];simp),g,C,K,lI,w]
   ·rename_i hx;first | exact h | (simp only [hx];exact h)
   ·cases h
  ·cases h
 | index t x i=>simp only [effK,a x (by simp [Op.operands]),a i (by simp [Op.operands])] at h ⊢;exact h
 | range t x=>simp only [effK,a x (by simp [Op.operands])] at h ⊢;exact h
 | typeAssert x xt at_ ok=>simp only [effK,a x (by simp [Op.operands])] at h ⊢;exact h
 | extract x i=>simp only [effK,a x (by simp [Op.operands])] at h ⊢;exact h
 | call cl=>
  have:=mh (ρ:=ρ) (ρ':=ρ') (l:=cl.args.toList) λx hx=>a x (by simp only [Op.operands,Call.operands,wF,mX];exact .inr hx);simp only [effK,this] at h ⊢;split at h
  case h_2=>cases h
  obtain ⟨args,ha,q⟩:=ar h;simp only [ha,lI];split at q
  ·split at q
   ·exact q
   ·exact q
   ·exact q
   ·rename_i b;split at q
    case h_2=>cases q
    split at q
    case h_2=>cases q
    split at q
    case h_2=>cases q
    rename_i g;have D:=q;simp only [ak] at D;simp only [B b (by rw [<-D];simp),g, *]
   ·exact q
   ·rename_i x n1 n2 n3 n4 n5;cases x<;>first | exact q | exact absurd rfl (n1 _) | exact absurd rfl (n2 _ _ _ _) | exact absurd rfl n3 | exact absurd rfl (n4 _) | exact absurd rfl (n5 _ _ _ _ _)
   ·cases q
  ·exact q
  ·exact q
  ·exact q
  ·cases q
 | _=>simp [effK] at h
theorem Ld {α:Type} {ρ:Operand->Option V} {H:List (Nat×Blk)} {f:Nat} {op:Op} {c:Eff->Option α} {z:α} (h:effK P ρ H f op c=some z):
  ∃e,effK P ρ H f op some=some e/\c e=some z:=by
 have h':ob (effK P ρ H f op some) c=some z:=(NC ρ H f op some c).symm.trans h;exact ar h'
theorem AQ {a b:Nat} (h:b<=a):max a b=a:=Nat.max_eq_left h
theorem AP {α:Type} {E:List Ent} (hE:∀x∈E,fp P x) {n fr:Nat} {s:St} {o:Oper} (hnb:fr+8<=s.nb) {k:St->List Nat->List (Nat×Blk)->Nat->Option α} {kp:V->St->Option α} {z:α}
  (h:B5 P E n fr o s k kp=some z):
  (∃val wr rd g,k (s.app o.dst val wr s.nb) rd wr g=some z/\∀s':St,(∀x∈o.op.operands.toList,opd s'.T x=opd s.T x)->(∀b∈rd,look s'.H b=look s.H b)->s'.nb=s.nb->s'.ro=s.ro->
   ∀(ι0:Inj) (w0:Base) (ι:Inj) (a:Act) (w:World),Inv n ι0 w0 ι s' a w->(∀b,fr<=b->b<fr+8->ι b=none)->∀(next:Act->World->Prop) (Q:Exit->Act->World->Prop),
    (∀c D w',(∀b,(b<fr\/fr+8<=b)->c b=ι b)->Inv n ι0 w0 c (s'.app o.dst val wr s'.nb) D w'->next D w')->o.wp P a w next Q)\/
  (∃(v:V) (wr:List (Nat×Blk)) (rd:List Nat),kp v (s.app none none wr s.nb)=some z/\∀s':St,(∀x∈o.op.operands.toList,opd s'.T x=opd s.T x)->(∀b∈rd,look s'.H b=look s.H b)->s'.nb=s.nb->s'.ro=s.ro->
   ∀(ι0:Inj) (w0:Base) (ι:Inj) (a:Act) (w:World),Inv n ι0 w0 ι s' a w->(∀b,fr<=b->b<fr+8->ι b=none)->∀(next:Act->World->Prop) (Q:Exit->Act->World->Prop),
    (∀c x w',VR c v x->Inv n ι0 w0 c (s'.app none none wr s'.nb) a w'->Q (.panic [{ v:=x,recovered:=false }]) a w')->o.wp P a w next Q):=by
 unfold B5 at h;split at h
 ·cases h
 rename_i hd;have O:ua P fr o s k=some z->∃val wr rd g,k (s.app o.dst val wr s.nb) rd wr g=some z/\∀s':St,(∀x∈o.op.operands.toList,opd s'.T x=opd s.T x)->(∀b∈rd,look s'.H b=look s.H b)->s'.nb=s.nb->s'.ro=s.ro->
   ∀(ι0:Inj) (w0:Base) (ι:Inj) (a:Act) (w:World),Inv n ι0 w0 ι s' a w->(∀b,fr<=b->b<fr+8->ι b=none)->∀(next:Act->World->Prop) (Q:Exit->Act->World->Prop),
    (∀c D w',(∀b,(b<fr\/fr+8<=b)->c b=ι b)->Inv n ι0 w0 c (s'.app o.dst val wr s'.nb) D w'->next D w')->o.wp P a w next Q:=by
  intro h;unfold ua at h;obtain ⟨e,he,R⟩:=Ld h;split at R;rename_i v wr g hne;split at R
  case h_2=>cases R
  rename_i Z;simp only [az] at Z;have hg8:=aE Z.2;have L:nbOf s.nb fr g=s.nb:=by
   cases g with
   | zero=>rfl
   | succ g=>exact AQ (by omega)
  rw [L] at R;refine ⟨v,wr,e.rd,g,R,λs' h1 F h3 hro ι0 w0 ι a w B j next Q K=>?_⟩;have hf:=j fr (aP _) (by omega);have he':=GR he h1 F;obtain ⟨e',h4,S⟩:=HZ B.tmps B.mem hf he';simp only [ak] at h4;subst h4;refine Fe B hf hd S (λJ bb hw=>by
   have:=Z.1;unfold roOK at this;rw [hw] at this;simp only [J] at this;rw [hro];exact aE this) λc D w' I g2 d=>?_
  obtain ⟨ι2,k1,k2⟩:=A4 hne d (λb u M X=>by
   by_cases N:b=fr
   ·subst N;rw [g2 (.inr (X rfl))];exact hf
   ·rw [I b N];exact j b u (by omega)) (λbb hw J=>fR.new_eq S hw J) (nb:=s'.nb) (by
    split
    ·rw [AQ (by omega)];exact aP _
    ·exact aP _) (by omega)
  exact K ι2 D w' (λb hb'=>by rw [k1 b (by omega)];exact I b (by omega)) k2
 split at h
 ·rename_i cl m;split at h
  ·rename_i g p;split at h
   ·rename_i f cap hg;obtain ⟨l,hl,h⟩:=ar h;obtain ⟨r,F,h3⟩:=uX hE h;split at F
    ·cases F
    rename_i A;simp only [az] at A;obtain ⟨A,G,q⟩:=A;have q:r.kill=[]:=by simpa using q
    have A:=aE A;rw [AQ (by omega)] at F;split at F
    ·rename_i i;refine .inr ⟨_,_,r.rd,F,λs' u M X Y ι0 w0 ι a w B j next Q K=>?_⟩;obtain ⟨C,args,tys⟩:=cl;simp only at p;subst p;rw [m] at u;have U:=u g (by simp [Op.operands,Call.operands]);have e5:=mh (ρ:=opd s.T) (ρ':=opd s'.T) (l:=args.toList) λx hx=>u x (by simp only [Op.operands,Call.operands,wF,mX];exact .inr hx);refine ze m B (λb q1 q2=>j b q1 (by omega)) hd (by rw [U];exact hg) (by rw [e5];exact hl) (by rw [Y];exact G) (by rw [q];rfl) (h3 _ M) (λhp=>by rw [hp] at i;cases i) (λ_ c x w' I d=>?_);rw [AQ (by omega)] at d;rw [q] at d;exact K c x w' I d
    rename_i i;refine .inl ⟨_,_,_,_,F,λs' u M X Y ι0 w0 ι a w B j next Q K=>?_⟩;obtain ⟨C,args,tys⟩:=cl;simp only at p;subst p;rw [m] at u;have U:=u g (by simp [Op.operands,Call.operands]);have e5:=mh (ρ:=opd s.T) (ρ':=opd s'.T) (l:=args.toList) λx hx=>u x (by simp only [Op.operands,Call.operands,wF,mX];exact .inr hx);refine ze m B (λb q1 q2=>j b q1 (by omega)) hd (by rw [U];exact hg) (by rw [e5];exact hl) (by rw [Y];exact G) (by rw [q];rfl) (h3 _ M) (λ_ c D w' I d=>?_) (λhp=>by rw [hp] at i;cases i);rw [AQ (by omega)] at d;rw [q] at I d;exact K c D w' (λb Z=>I b rfl (by omega)) d
   ·cases h
  ·exact .inl (O h)
 ·rename_i x m;split at h
  ·rename_i t v hx;refine .inr ⟨_,[],[],h,λs' u M X Y ι0 w0 ι a w B j next Q K=>?_⟩;rw [m] at u;have U:=u x (by simp [Op.operands]);have hv:=bg B.tmps (by rw [U];exact hx);have hv':=hv;simp only [VR] at hv;obtain ⟨y,h6,_⟩:=hv;unfold Oper.wp;have W:(execOp a.eval o).run P w=.halt (.panic (.iface t y)) w:=by
    simp only [execOp,m,h6,Instr.panic,aw,run_goPanic,Result.andThen_halt]
   rw [W];exact K ι _ w (h6▸hv') B
  ·cases h
 ·exact .inl (O h)
end Go.Abs
