/- An operation's effect hangs on what it looks at: the operations of the model.
   Conditions: none; generic over the program. -/
import Derived.Test.YtpkdacjndoiabaaGreatDoorAbsL
set_option linter.unusedSimpArgs false
namespace Go.Abs
variable {P:Program}
theorem mS {ρ ρ':Operand->Option V}:∀{l:List Operand},(∀x∈l,ρ' x=ρ x)->opds ρ' l=opds ρ l
 | [],_=>rfl
 | x::l,h=>by
  simp only [opds,h x (by simp),mS λy hy=>h y (gq _ hy)]
theorem pd {ρ ρ':Operand->Option V}:∀{l:List (Nat×Operand)},(∀x∈l,ρ' x.2=ρ x.2)->pu ρ' l=pu ρ l
 | [],_=>rfl
 | (i,x)::l,h=>by
  have h1:ρ' x=ρ x:=h (i,x) (by simp)
  simp only [pu,h1,pd λy hy=>h y (gq _ hy)]
theorem uJ {ρ ρ':Operand->Option V} {x:Option Operand} (h:∀y,x=some y->ρ' y=ρ y):qb ρ' x=qb ρ x:=by
 cases x with
 | none=>rfl
 | some y=>simp only [qb,h y rfl]
theorem LH {α:Type} {n len:Nat} {h:Option Int} {c:Nat->Option α} {z:α} (hz:hiK n len h c=some z):∃m,c m=some z:=by
 unfold hiK at hz
 split at hz
 ·exact ⟨_,hz⟩
 ·obtain ⟨m,_,h2⟩:=av hz
  exact ⟨m,h2⟩
theorem LQ {α:Type} {n:Nat} {h:Option Int} {c:Nat->Option α} {z:α} (hz:loK n h c=some z):∃m,c m=some z:=by
 unfold loK at hz
 split at hz
 ·exact ⟨_,hz⟩
 ·obtain ⟨m,_,h2⟩:=av hz
  exact ⟨m,h2⟩
theorem Ds {α:Type} {t:TypeId} {blk:Blk} {o:Nat} {v:V} {c:Blk->Option α} {z:α} (h:qA P t blk o v c=some z):∃b,c b=some z:=by
 have h':ob (qA P t blk o v some) c=some z:=(qO t blk o v some c).symm.trans h
 obtain ⟨b,_,h2⟩:=av h'
 exact ⟨b,h2⟩
theorem Kw {H H':List (Nat×Blk)} {u:V} {m:Nat} {rd:List Nat} (h:slL H u=some (m,rd)) (hH:∀b∈rd,look H' b=look H b):slL H' u=some (m,rd):=by
 unfold slL at h ⊢
 split at h
 ·rename_i c
  split at h
  case h_2=>cases h
  rename_i tr l hb
  simp only [aq,bO] at h
  obtain ⟨rfl,rfl⟩:=h
  simp only [hH c (by simp),hb]
 ·exact h
 ·cases h
theorem GN {ρ ρ':Operand->Option V} {H H':List (Nat×Blk)} {f:Nat} {op:Op} {e:Eff} (h:effK P ρ H f op some=some e) (hρ:∀x∈op.operands.toList,ρ' x=ρ x)
  (hH:∀b∈e.rd,look H' b=look H b):effK P ρ' H' f op some=some e:=by
 cases op with
 | load t x=>
  have hx:=hρ x (by simp [Op.operands])
  simp only [effK,hx] at h ⊢
  split at h
  ·rename_i b o hp
   split at h
   ·rename_i blk hb
    have h':=h
    rw [show (λv=>some ({ val:=some v,rd:=[b] }:Eff))=λv=>ob (some v) λv=>some ({ val:=some v,rd:=[b] }:Eff) from rfl,tQ] at h'
    obtain ⟨v,_,h2⟩:=av h'
    simp only [aq] at h2
    have hr:=hH b (by rw [<-h2];simp)
    simp only [hr,hb,h]
   ·cases h
  ·rename_i zz b j o hp
   split at h
   case h_2=>cases h
   rename_i tr l hb
   split at h
   case h_2=>cases h
   rename_i hz
   obtain ⟨xr,hj,h'⟩:=av h
   have h'':=h'
   rw [show (λv=>some ({ val:=some v,rd:=[b] }:Eff))=λv=>ob (some v) λv=>some ({ val:=some v,rd:=[b] }:Eff) from rfl,tQ] at h'
   obtain ⟨v,_,h2⟩:=av h'
   simp only [aq] at h2
   have hr:=hH b (by rw [<-h2];simp)
   simp only [hr,hb,hz,hj,mf,h'']
  ·cases h
 | makeSlice t x y=>simp only [effK,hρ x (by simp [Op.operands]),hρ y (by simp [Op.operands])] at h ⊢;exact h
 | store t x y=>
  have hx:=hρ x (by simp [Op.operands])
  have hy:=hρ y (by simp [Op.operands])
  simp only [effK,hx,hy] at h ⊢
  split at h
  ·rename_i b o hp
   obtain ⟨v,hv,h⟩:=av h
   split at h
   ·rename_i blk hb
    have h':=h
    rw [show (λblk'=>some ({ val:=none,rd:=[b],wr:=some (b,blk') }:Eff))=λblk'=>ob (some blk') λblk'=>some ({ val:=none,rd:=[b],wr:=some (b,blk') }:Eff) from rfl,qO] at h'
    obtain ⟨v',_,h2⟩:=av h'
    simp only [aq] at h2
    have hr:=hH b (by rw [<-h2];simp)
    simp only [hv,mf,hr,hb,h]
   ·cases h
  ·rename_i zz b j o hp
   obtain ⟨v,hv,h'⟩:=av h
   split at h'
   case h_2=>cases h'
   rename_i tr l hb
   split at h'
   case h_2=>cases h'
   rename_i hz
   obtain ⟨xr,hj,h1⟩:=av h'
   have h2:=h1
   obtain ⟨blk',h3⟩:=Ds h1
   split at h3
   case h_2=>cases h3
   obtain ⟨x',_,h4⟩:=av h3
   simp only [aq] at h4
   have hr:=hH b (by rw [<-h4];simp)
   simp only [hv,mf,hr,hb,hz,hj,h2]
  ·cases h
 | move x=>simp only [effK,hρ x (by simp [Op.operands])] at h ⊢;exact h
 | assign x=>simp only [effK,hρ x (by simp [Op.operands])] at h ⊢;exact h
 | pick c x y=>simp only [effK,hρ c (by simp [Op.operands]),hρ x (by simp [Op.operands]),hρ y (by simp [Op.operands])] at h ⊢;exact h
 | alloc t=>exact h
 | box t x=>simp only [effK,hρ x (by simp [Op.operands])] at h ⊢;exact h
 | build t ps=>
  have:=pd (ρ:=ρ) (ρ':=ρ') (l:=ps.toList) λx hx=>hρ x.2 (by simp only [Op.operands,eJ];exact ⟨x,hx,rfl⟩)
  simp only [effK,this] at h ⊢;exact h
 | buildSlice t n ps=>
  have:=pd (ρ:=ρ) (ρ':=ρ') (l:=ps.toList) λx hx=>hρ x.2 (by simp only [Op.operands,eJ];exact ⟨x,hx,rfl⟩)
  simp only [effK,this] at h ⊢;exact h
 | nilCheck x=>simp only [effK,hρ x (by simp [Op.operands])] at h ⊢;exact h
 | binOp o t x y yt=>
  simp only [effK,hρ x (by simp [Op.operands]),hρ y (by simp [Op.operands])] at h ⊢
  obtain ⟨u,hu,h⟩:=av h
  obtain ⟨v,hv,h⟩:=av h
  rw [hu,hv]
  simp only [mf]
  split at h
  ·exact h
  ·split at h
   ·split at h
    case h_2=>cases h
    rename_i m rd hl
    obtain ⟨hm,h⟩:=eO h
    have hl2:=Kw hl λb hb=>hH b (by rw [<-bg h];exact hb)
    rw [hl2]
    simp only [hm,aj]
    exact h
   ·exact h
 | unOp o t x=>simp only [effK,hρ x (by simp [Op.operands])] at h ⊢;exact h
 | convert s d x=>
  simp only [effK,hρ x (by simp [Op.operands])] at h ⊢
  obtain ⟨v,hv,q⟩:=av h
  rw [hv]
  simp only [mf]
  have key:∀b,e.rd=[b]->look H' b=look H b:=λb he=>hH b (by rw [he];simp)
  cases v<;>try exact q
  ·rename_i b
   split at q
   case h_2=>cases q
   split at q
   ·cases q
   ·simp only at q ⊢
    split at q
    case h_2=>cases q
    split at q
    case h_2=>cases q
    split at q
    case h_2=>cases q
    rename_i hb
    have q':=q
    simp only [aq] at q'
    rw [key b (by rw [<-q']),hb]
    exact q
   ·split at q<;>cases q
   ·cases q
  ·rename_i zz b j n _
   split at q
   case h_2=>cases q
   split at q
   ·cases q
   ·simp only at q ⊢
    split at q
    case h_2=>cases q
    split at q
    case h_2=>cases q
    split at q
    case h_2=>cases q
    rename_i hb
    split at q
    case h_2=>cases q
    rename_i hz
    obtain ⟨hc,q'⟩:=eO q
    simp only [aq] at q'
    rw [key b (by rw [<-q']),hb]
    simp only [hz]
    exact q
   ·split at q<;>cases q
   ·cases q
  ·rename_i b o m cap
   split at q
   case h_2=>cases q
   split at q
   ·cases q
   ·simp only at q ⊢
    split at q
    case h_2=>cases q
    split at q
    case h_2=>cases q
    split at q
    case h_2=>cases q
    rename_i hb
    obtain ⟨hc,q'⟩:=eO q
    simp only [aq] at q'
    rw [key b (by rw [<-q']),hb]
    exact q
   ·split at q<;>cases q
   ·cases q
 | next x str=>
  have hx:=hρ x (by simp [Op.operands])
  simp only [effK,hx] at h ⊢
  split at h
  case h_2=>cases h
  rename_i b hp
  split at h
  case h_2=>cases h
  rename_i l pos hb
  have hr:look H' b=look H b:=hH b (by
   cases hc:Nat.blt pos l.length<;>rw [hc] at h<;>simp only [aj,af,aq] at h<;>rw [<-h]<;>simp)
  simp only [hr,hb]
  exact h
 | makeInterface t x=>simp only [effK,hρ x (by simp [Op.operands])] at h ⊢;exact h
 | makeFunc fn first cap=>
  have:=mS (ρ:=ρ) (ρ':=ρ') (l:=cap.toList) λx hx=>hρ x (by simp only [Op.operands,wa,nU];exact .inr hx)
  have h2:=mS (ρ:=ρ) (ρ':=ρ') (l:=first.toList) λx hx=>hρ x (by simp only [Op.operands,wa,nU];exact .inl hx)
  simp only [effK,this,h2] at h ⊢;exact h
 | slice t x lo hi mx=>
  have h1:=hρ x (by simp [Op.operands])
  have h2:=uJ (ρ:=ρ) (ρ':=ρ') (x:=lo) λy hy=>hρ y (by simp [Op.operands,hy])
  have h3:=uJ (ρ:=ρ) (ρ':=ρ') (x:=hi) λy hy=>hρ y (by simp [Op.operands,hy])
  simp only [effK,h1,h2,h3] at h ⊢
  cases mx with
  | some m=>
   simp only at h ⊢
   have h4:=hρ m (by simp [Op.operands])
   cases lo with
   | some _=>exact h
   | none=>
   cases hi with
   | none=>exact h
   | some hv=>
   have h5:=hρ hv (by simp [Op.operands])
   simp only [uc,h1,h4,h5] at h ⊢
   obtain ⟨u,hu,q1⟩:=av h
   simp only [hu,mf]
   clear h
   split at q1
   case h_2=>cases q1
   split at q1
   case h_2=>cases q1
   split at q1
   case h_2=>cases q1
   split at q1
   ·rename_i b
    split at q1
    case h_2=>cases q1
    rename_i tr l hb
    split at q1
    case h_2=>cases q1
    rename_i hz
    obtain ⟨M,hM,q2⟩:=av q1
    obtain ⟨L,hL,q3⟩:=av q2
    have q4:=q3
    simp only [aq] at q4
    simp only [hH b (by rw [<-q4];simp),hb,hz,hM,hL,mf,q3]
   ·exact q1
   ·exact q1
   ·cases q1
  | none=>
  simp only at h ⊢
  obtain ⟨u,hu,q1⟩:=av h
  obtain ⟨l,hl,q2⟩:=av q1
  obtain ⟨hh,hhi,q3⟩:=av q2
  simp only [hu,hl,hhi,mf]
  clear h q1 q2
  split at q3
  ·exact q3
  ·exact q3
  ·split at q3
   case h_2=>cases q3
   cases u<;>try exact q3
   case sl=>rename_i cap;cases cap<;>exact q3
   rename_i b
   simp only at q3 ⊢
   split at q3
   case h_2=>cases q3
   rename_i tr m hb
   split at q3
   case h_2=>cases q3
   rename_i hz
   obtain ⟨H1,q4⟩:=LH q3
   obtain ⟨L1,q5⟩:=LQ q4
   simp only [aq] at q5
   rw [hH b (by rw [<-q5];simp),hb]
   simp only [hz]
   exact q3
  ·cases q3
 | makeMap t x=>exact h
 | insert t m x y=>
  simp only [effK,hρ m (by simp [Op.operands]),hρ x (by simp [Op.operands]),hρ y (by simp [Op.operands])] at h ⊢
  split at h
  case h_2=>cases h
  rename_i b hm
  split at h
  case h_2=>cases h
  split at h
  case h_2=>cases h
  split at h
  case h_2=>cases h
  split at h
  case h_2=>cases h
  rename_i k1 l hb
  split at h
  case h_2=>cases h
  rename_i hkk
  rw [hH b (by rw [<-bg h];simp),hb]
  simp only [hkk]
  exact h
 | lookup t m x ok=>
  simp only [effK,hρ m (by simp [Op.operands]),hρ x (by simp [Op.operands])] at h ⊢
  split at h
  case h_2=>cases h
  rename_i b hm
  split at h
  case h_2=>cases h
  split at h
  case h_2=>cases h
  split at h
  case h_2=>cases h
  split at h
  case h_2=>cases h
  rename_i k1 l hb
  split at h
  case h_2=>cases h
  rename_i hkk
  have hrd:e.rd=[b]:=by
   clear hb
   revert h
   generalize l=l'
   induction l' with
   | nil=>intro h;cases h
   | cons p l ih=>
    intro h
    simp only [mapK] at h
    revert h
    cases (_==p.1) with
    | true=>intro h;rw [<-bg h]
    | false=>exact ih
  rw [hH b (by rw [hrd];simp),hb]
  simp only [hkk]
  exact h
 | fieldAddr t x i=>simp only [effK,hρ x (by simp [Op.operands])] at h ⊢;exact h
 | field t x i=>simp only [effK,hρ x (by simp [Op.operands])] at h ⊢;exact h
 | indexAddr t x i=>
  simp only [effK,hρ x (by simp [Op.operands]),hρ i (by simp [Op.operands])] at h ⊢
  split at h
  case h_2=>cases h
  split at h
  ·exact h
  ·split at h
   ·rename_i hx;first | exact h | (simp only [hx];exact h)
   ·rename_i b hx
    split at h
    case h_2=>cases h
    rename_i tr l hb
    split at h
    case h_2=>cases h
    rename_i hz
    obtain ⟨j,hj,h'⟩:=av h
    have h2:=h'
    simp only [aq] at h2
    simp only [hx,hH b (by rw [<-h2];simp),hb,hz,hj,mf,h']
   ·rename_i hx;first | exact h | (simp only [hx];exact h)
   ·cases h
  ·cases h
 | index t x i=>simp only [effK,hρ x (by simp [Op.operands]),hρ i (by simp [Op.operands])] at h ⊢;exact h
 | range t x=>simp only [effK,hρ x (by simp [Op.operands])] at h ⊢;exact h
 | typeAssert x xt at_ ok=>simp only [effK,hρ x (by simp [Op.operands])] at h ⊢;exact h
 | extract x i=>simp only [effK,hρ x (by simp [Op.operands])] at h ⊢;exact h
 | call cl=>
  have:=mS (ρ:=ρ) (ρ':=ρ') (l:=cl.args.toList) λx hx=>hρ x (by simp only [Op.operands,Call.operands,wa,nU];exact .inr hx)
  simp only [effK,this] at h ⊢
  split at h
  case h_2=>cases h
  obtain ⟨args,ha,q⟩:=av h
  simp only [ha,mf]
  split at q
  ·split at q
   ·exact q
   ·exact q
   ·exact q
   ·rename_i b
    split at q
    case h_2=>cases q
    split at q
    case h_2=>cases q
    split at q
    case h_2=>cases q
    rename_i hb
    have q':=q
    simp only [aq] at q'
    simp only [hH b (by rw [<-q'];simp),hb, *]
   ·exact q
   ·rename_i x n1 n2 n3 n4 n5
    cases x<;>first | exact q | exact absurd rfl (n1 _) | exact absurd rfl (n2 _ _ _ _) | exact absurd rfl n3 | exact absurd rfl (n4 _) | exact absurd rfl (n5 _ _ _ _ _)
   ·cases q
  ·exact q
  ·exact q
  ·exact q
  ·cases q
 | _=>simp [effK] at h
theorem Ju {α:Type} {ρ:Operand->Option V} {H:List (Nat×Blk)} {f:Nat} {op:Op} {c:Eff->Option α} {z:α} (h:effK P ρ H f op c=some z):
  ∃e,effK P ρ H f op some=some e/\c e=some z:=by
 have h':ob (effK P ρ H f op some) c=some z:=(NV ρ H f op some c).symm.trans h
 exact av h'
theorem Cb {a b:Nat} (h:b<=a):max a b=a:=Nat.max_eq_left h
theorem Bm {α:Type} {E:List Ent} (hE:∀x∈E,gN P x) {n fr:Nat} {s:St} {o:Oper} (hnb:fr+8<=s.nb) {k:St->List Nat->List (Nat×Blk)->Nat->Option α} {kp:V->St->Option α} {z:α}
  (h:B9 P E n fr o s k kp=some z):
  (∃val wr rd g,k (s.app o.dst val wr s.nb) rd wr g=some z/\∀s':St,(∀x∈o.op.operands.toList,opd s'.T x=opd s.T x)->(∀b∈rd,look s'.H b=look s.H b)->s'.nb=s.nb->s'.ro=s.ro->
   ∀(ι0:Inj) (w0:Base) (ι:Inj) (a:Act) (w:World),Inv n ι0 w0 ι s' a w->(∀b,fr<=b->b<fr+8->ι b=none)->∀(next:Act->World->Prop) (Q:Exit->Act->World->Prop),
    (∀ι' a' w',(∀b,(b<fr\/fr+8<=b)->ι' b=ι b)->Inv n ι0 w0 ι' (s'.app o.dst val wr s'.nb) a' w'->next a' w')->o.wp P a w next Q)\/
  (∃(v:V) (wr:List (Nat×Blk)) (rd:List Nat),kp v (s.app none none wr s.nb)=some z/\∀s':St,(∀x∈o.op.operands.toList,opd s'.T x=opd s.T x)->(∀b∈rd,look s'.H b=look s.H b)->s'.nb=s.nb->s'.ro=s.ro->
   ∀(ι0:Inj) (w0:Base) (ι:Inj) (a:Act) (w:World),Inv n ι0 w0 ι s' a w->(∀b,fr<=b->b<fr+8->ι b=none)->∀(next:Act->World->Prop) (Q:Exit->Act->World->Prop),
    (∀ι' x w',VR ι' v x->Inv n ι0 w0 ι' (s'.app none none wr s'.nb) a w'->Q (.panic [{ v:=x,recovered:=false }]) a w')->o.wp P a w next Q):=by
 unfold B9 at h
 split at h
 ·cases h
 rename_i hd
 have eff:ub P fr o s k=some z->∃val wr rd g,k (s.app o.dst val wr s.nb) rd wr g=some z/\∀s':St,(∀x∈o.op.operands.toList,opd s'.T x=opd s.T x)->(∀b∈rd,look s'.H b=look s.H b)->s'.nb=s.nb->s'.ro=s.ro->
   ∀(ι0:Inj) (w0:Base) (ι:Inj) (a:Act) (w:World),Inv n ι0 w0 ι s' a w->(∀b,fr<=b->b<fr+8->ι b=none)->∀(next:Act->World->Prop) (Q:Exit->Act->World->Prop),
    (∀ι' a' w',(∀b,(b<fr\/fr+8<=b)->ι' b=ι b)->Inv n ι0 w0 ι' (s'.app o.dst val wr s'.nb) a' w'->next a' w')->o.wp P a w next Q:=by
  intro h
  unfold ub at h
  obtain ⟨e,he,hk⟩:=Ju h
  split at hk
  rename_i v wr g hne
  split at hk
  case h_2=>cases hk
  rename_i hb
  simp only [az] at hb
  have hg8:=aI hb.2
  have hnb2:nbOf s.nb fr g=s.nb:=by
   cases g with
   | zero=>rfl
   | succ g=>exact Cb (by omega)
  rw [hnb2] at hk
  refine ⟨v,wr,e.rd,g,hk,λs' h1 h2 h3 hro ι0 w0 ι a w hI hfr next Q hn=>?_⟩
  have hf:=hfr fr (aV _) (by omega)
  have he':=GN he h1 h2
  obtain ⟨e',h4,hok⟩:=LD hI.tmps hI.mem hf he'
  simp only [aq] at h4
  subst h4
  refine EG hI hf hd hok (λhnw bb hw=>by
   have:=hb.1
   unfold roOK at this
   rw [hw] at this
   simp only [hnw] at this
   rw [hro];exact aI this) λι' a' w' g1 g2 hI'=>?_
  obtain ⟨ι2,k1,k2⟩:=AU hne hI' (λb e1 e2 e3=>by
   by_cases hbf:b=fr
   ·subst hbf;rw [g2 (.inr (e3 rfl))];exact hf
   ·rw [g1 b hbf];exact hfr b e1 (by omega)) (λbb hw hnw=>gz.new_eq hok hw hnw) (nb:=s'.nb) (by
    split
    ·rw [Cb (by omega)];exact aV _
    ·exact aV _) (by omega)
  exact hn ι2 a' w' (λb hb'=>by rw [k1 b (by omega)];exact g1 b (by omega)) k2
 split at h
 ·rename_i cl hop
  split at h
  ·rename_i g hcal
   split at h
   ·rename_i f cap hg
    obtain ⟨l,hl,h⟩:=av h
    obtain ⟨r,h2,h3⟩:=vd hE h
    split at h2
    ·cases h2
    rename_i hgr
    simp only [az] at hgr
    obtain ⟨hgr,hwro,hk0⟩:=hgr
    have hk0:r.kill=[]:=by simpa using hk0
    have hgr:=aI hgr
    rw [Cb (by omega)] at h2
    split at h2
    ·rename_i hpan
     refine .inr ⟨_,_,r.rd,h2,λs' e1 e2 e3 e9 ι0 w0 ι a w hI hfr next Q hn=>?_⟩
     obtain ⟨callee,args,tys⟩:=cl
     simp only at hcal
     subst hcal
     rw [hop] at e1
     have e4:=e1 g (by simp [Op.operands,Call.operands])
     have e5:=mS (ρ:=opd s.T) (ρ':=opd s'.T) (l:=args.toList) λx hx=>e1 x (by simp only [Op.operands,Call.operands,wa,nU];exact .inr hx)
     refine zJ hop hI (λb q1 q2=>hfr b q1 (by omega)) hd (by rw [e4];exact hg) (by rw [e5];exact hl) (by rw [e9];exact hwro) (by rw [hk0];rfl) (h3 _ e2) (λhp=>by rw [hp] at hpan;cases hpan) (λ_ ι' x w' g1 hI'=>?_)
     rw [Cb (by omega)] at hI'
     rw [hk0] at hI'
     exact hn ι' x w' g1 hI'
    rename_i hpan
    refine .inl ⟨_,_,_,_,h2,λs' e1 e2 e3 e9 ι0 w0 ι a w hI hfr next Q hn=>?_⟩
    obtain ⟨callee,args,tys⟩:=cl
    simp only at hcal
    subst hcal
    rw [hop] at e1
    have e4:=e1 g (by simp [Op.operands,Call.operands])
    have e5:=mS (ρ:=opd s.T) (ρ':=opd s'.T) (l:=args.toList) λx hx=>e1 x (by simp only [Op.operands,Call.operands,wa,nU];exact .inr hx)
    refine zJ hop hI (λb q1 q2=>hfr b q1 (by omega)) hd (by rw [e4];exact hg) (by rw [e5];exact hl) (by rw [e9];exact hwro) (by rw [hk0];rfl) (h3 _ e2) (λ_ ι' a' w' g1 hI'=>?_) (λhp=>by rw [hp] at hpan;cases hpan)
    rw [Cb (by omega)] at hI'
    rw [hk0] at g1 hI'
    exact hn ι' a' w' (λb hb=>g1 b rfl (by omega)) hI'
   ·cases h
  ·exact .inl (eff h)
 ·rename_i x hop
  split at h
  ·rename_i t v hx
   refine .inr ⟨_,[],[],h,λs' e1 e2 e3 e9 ι0 w0 ι a w hI hfr next Q hn=>?_⟩
   rw [hop] at e1
   have e4:=e1 x (by simp [Op.operands])
   have hv:=bn hI.tmps (by rw [e4];exact hx)
   have hv':=hv
   simp only [VR] at hv
   obtain ⟨y,h6,_⟩:=hv
   unfold Oper.wp
   have hrun:(execOp a.eval o).run P w=.halt (.panic (.iface t y)) w:=by
    simp only [execOp,hop,h6,Instr.panic,aw,run_goPanic,Result.andThen_halt]
   rw [hrun]
   exact hn ι _ w (h6▸hv') hI
  ·cases h
 ·exact .inl (eff h)
end Go.Abs
