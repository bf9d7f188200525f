
/- An operation's effect hangs on what it looks at: the operations of the model.
   Conditions: none; generic over the program. -/
import Derived.Test.YthemneooekobkaaGreatDoorAbsL
set_option linter.unusedVariables false
set_option linter.unusedSimpArgs false
namespace Go.Abs
variable {P:Program}
theorem nA {ρ ρ':Operand->Option V}:∀{l:List Operand},(∀x∈l,ρ' x=ρ x)->opds ρ' l=opds ρ l
 | [],_=>rfl
 | x::l,h=>by
  simp only [opds,h x (by simp),nA λy hy=>h y (fN _ hy)]
theorem qc {ρ ρ':Operand->Option V}:∀{l:List (Nat×Operand)},(∀x∈l,ρ' x.2=ρ x.2)->qk ρ' l=qk ρ l
 | [],_=>rfl
 | (i,x)::l,h=>by
  have a:ρ' x=ρ x:=h (i,x) (by simp);simp only [qk,a,qc λy hy=>h y (fN _ hy)]
theorem vD {ρ ρ':Operand->Option V} {x:Option Operand} (h:∀y,x=some y->ρ' y=ρ y):rA ρ' x=rA ρ x:=by
 cases x with
 | none=>rfl
 | some y=>simp only [rA,h y rfl]
theorem Q6 {α:Type} {n len:Nat} {h:Option Int} {c:Nat->Option α} {z:α} (a:hiK n len h c=some z):∃m,c m=some z:=by
 unfold hiK at a;split at a
 ·exact ⟨_,a⟩
 ·obtain ⟨m,_,b⟩:=ay a;exact ⟨m,b⟩
theorem Q3 {α:Type} {n:Nat} {h:Option Int} {c:Nat->Option α} {z:α} (a:loK n h c=some z):∃m,c m=some z:=by
 unfold loK at a;split at a
 ·exact ⟨_,a⟩
 ·obtain ⟨m,_,b⟩:=ay a;exact ⟨m,b⟩
theorem Gp {α:Type} {t:TypeId} {blk:Blk} {o:Nat} {v:V} {c:Blk->Option α} {z:α} (h:rc P t blk o v c=some z):∃b,c b=some z:=by
 have h':ob (rc P t blk o v some) c=some z:=(so t blk o v some c).symm.trans h;obtain ⟨b,_,a⟩:=ay h';exact ⟨b,a⟩
theorem L0 {H a:List (Nat×Blk)} {u:V} {m:Nat} {rd:List Nat} (h:slL H u=some (m,rd)) (d:∀b∈rd,look a b=look H b):slL a u=some (m,rd):=by
 unfold slL at h ⊢;split at h
 ·rename_i c;split at h
  case h_2=>cases h
  rename_i tr l e;simp only [aw,bG] at h;obtain ⟨rfl,rfl⟩:=h;simp only [d c (by simp),e]
 ·exact h
 ·cases h
theorem JG {ρ ρ':Operand->Option V} {H R:List (Nat×Blk)} {f:Nat} {op:Op} {e:Eff} (h:effK P ρ H f op some=some e) (a:∀x∈op.operands.toList,ρ' x=ρ x)
  (B:∀b∈e.rd,look R b=look H b):effK P ρ' R f op some=some e:=by
 cases op with
 | load t x=>
  have hx:=a x (by simp [Op.operands]);simp only [effK,hx] at h ⊢;split at h
  ·rename_i b o hp;split at h
   ·rename_i blk g;have z:=h;rw [show (λv=>some ({ val:=some v,rd:=[b] }:Eff))=λv=>ob (some v) λv=>some ({ val:=some v,rd:=[b] }:Eff) from rfl,ut] at z;obtain ⟨v,_,A⟩:=ay z;simp only [aw] at A;have F:=B b (by rw [<-A];simp);simp only [F,g,h]
   ·cases h
  ·rename_i zz b j o hp;split at h
   case h_2=>cases h
   rename_i tr l g;split at h
   case h_2=>cases h
   rename_i D;obtain ⟨xr,K,z⟩:=ay h;have h'':=z;rw [show (λv=>some ({ val:=some v,rd:=[b] }:Eff))=λv=>ob (some v) λv=>some ({ val:=some v,rd:=[b] }:Eff) from rfl,ut] at z;obtain ⟨v,_,A⟩:=ay z;simp only [aw] at A;have F:=B b (by rw [<-A];simp);simp only [F,g,D,K,mV,h'']
  ·cases h
 | makeSlice t x y=>simp only [effK,a x (by simp [Op.operands]),a y (by simp [Op.operands])] at h ⊢;exact h
 | store t x y=>
  have hx:=a x (by simp [Op.operands]);have hy:=a y (by simp [Op.operands]);simp only [effK,hx,hy] at h ⊢;split at h
  ·rename_i b o hp;obtain ⟨v,E,h⟩:=ay h;split at h
   ·rename_i blk g;have z:=h;rw [show (λk=>some ({ val:=none,rd:=[b],wr:=some (b,k) }:Eff))=λk=>ob (some k) λk=>some ({ val:=none,rd:=[b],wr:=some (b,k) }:Eff) from rfl,so] at z;obtain ⟨v',_,A⟩:=ay z;simp only [aw] at A;have F:=B b (by rw [<-A];simp);simp only [E,mV,F,g,h]
   ·cases h
  ·rename_i zz b j o hp;obtain ⟨v,E,z⟩:=ay h;split at z
   case h_2=>cases z
   rename_i tr l g;split at z
   case h_2=>cases z
   rename_i D;obtain ⟨xr,K,I⟩:=ay z;have A:=I;obtain ⟨k,J⟩:=Gp I;split at J
   case h_2=>cases J
   obtain ⟨x',_,O⟩:=ay J;simp only [aw] at O;have F:=B b (by rw [<-O];simp);simp only [E,mV,F,g,D,K,A]
  ·cases h
 | move x=>simp only [effK,a x (by simp [Op.operands])] at h ⊢;exact h
 | assign x=>simp only [effK,a x (by simp [Op.operands])] at h ⊢;exact h
 | pick c x y=>simp only [effK,a c (by simp [Op.operands]),a x (by simp [Op.operands]),a y (by simp [Op.operands])] at h ⊢;exact h
 | alloc t=>exact h
 | box t x=>simp only [effK,a x (by simp [Op.operands])] at h ⊢;exact h
 | build t W=>
  have:=qc (ρ:=ρ) (ρ':=ρ') (l:=W.toList) λx hx=>a x.2 (by simp only [Op.operands,ek];exact ⟨x,hx,rfl⟩);simp only [effK,this] at h ⊢;exact h
 | buildSlice t n W=>
  have:=qc (ρ:=ρ) (ρ':=ρ') (l:=W.toList) λx hx=>a x.2 (by simp only [Op.operands,ek];exact ⟨x,hx,rfl⟩);simp only [effK,this] at h ⊢;exact h
 | nilCheck x=>simp only [effK,a x (by simp [Op.operands])] at h ⊢;exact h
 | binOp o t x y yt=>
  simp only [effK,a x (by simp [Op.operands]),a y (by simp [Op.operands])] at h ⊢;obtain ⟨u,N,h⟩:=ay h;obtain ⟨v,E,h⟩:=ay h;rw [N,E];simp only [mV];split at h
  ·exact h
  ·split at h
   ·split at h
    case h_2=>cases h
    rename_i m rd X;obtain ⟨Z,h⟩:=fb h;have U:=L0 X λb g=>B b (by rw [<-bn h];exact g);rw [U];simp only [Z,ah];exact h
   ·exact h
 | unOp o t x=>simp only [effK,a x (by simp [Op.operands])] at h ⊢;exact h
 | convert s d x=>
  simp only [effK,a x (by simp [Op.operands])] at h ⊢;obtain ⟨v,E,q⟩:=ay h;rw [E];simp only [mV];have key:∀b,e.rd=[b]->look R b=look H b:=λb he=>B b (by rw [he];simp);cases v<;>try exact q
  ·rename_i b;split at q
   case h_2=>cases q
   split at q
   ·cases q
   ·simp only at q ⊢;split at q
    case h_2=>cases q
    split at q
    case h_2=>cases q
    split at q
    case h_2=>cases q
    rename_i g;have C:=q;simp only [aw] at C;rw [key b (by rw [<-C]),g];exact q
   ·split at q<;>cases q
   ·cases q
  ·rename_i zz b j n _;split at q
   case h_2=>cases q
   split at q
   ·cases q
   ·simp only at q ⊢;split at q
    case h_2=>cases q
    split at q
    case h_2=>cases q
    split at q
    case h_2=>cases q
    rename_i g;split at q
    case h_2=>cases q
    rename_i D;obtain ⟨hc,C⟩:=fb q;simp only [aw] at C;rw [key b (by rw [<-C]),g];simp only [D];exact q
   ·split at q<;>cases q
   ·cases q
  ·rename_i b o m cap;split at q
   case h_2=>cases q
   split at q
   ·cases q
   ·simp only at q ⊢;split at q
    case h_2=>cases q
    split at q
    case h_2=>cases q
    split at q
    case h_2=>cases q
    rename_i g;obtain ⟨hc,C⟩:=fb q;simp only [aw] at C;rw [key b (by rw [<-C]),g];exact q
   ·split at q<;>cases q
   ·cases q
 | next x str=>
  have hx:=a x (by simp [Op.operands]);simp only [effK,hx] at h ⊢;split at h
  case h_2=>cases h
  rename_i b hp;split at h
  case h_2=>cases h
  rename_i l pos g;have F:look R b=look H b:=B b (by
   cases hc:Nat.blt pos l.length<;>rw [hc] at h<;>simp only [ah,af,aw] at h<;>rw [<-h]<;>simp)
  simp only [F,g];exact h
 | makeInterface t x=>simp only [effK,a x (by simp [Op.operands])] at h ⊢;exact h
 | makeFunc fn first cap=>
  have:=nA (ρ:=ρ) (ρ':=ρ') (l:=cap.toList) λx hx=>a x (by simp only [Op.operands,xo,lk];exact .inr hx);have A:=nA (ρ:=ρ) (ρ':=ρ') (l:=first.toList) λx hx=>a x (by simp only [Op.operands,xo,lk];exact .inl hx);simp only [effK,this,A] at h ⊢;exact h
 | slice t x lo hi mx=>
  have I:=a x (by simp [Op.operands]);have A:=vD (ρ:=ρ) (ρ':=ρ') (x:=lo) λy hy=>a y (by simp [Op.operands,hy]);have J:=vD (ρ:=ρ) (ρ':=ρ') (x:=hi) λy hy=>a y (by simp [Op.operands,hy]);simp only [effK,I,A,J] at h ⊢;cases mx with
  | some m=>
   simp only at h ⊢;have O:=a m (by simp [Op.operands]);cases lo with
   | some _=>exact h
   | none=>
   cases hi with
   | none=>exact h
   | some E=>
   have h5:=a E (by simp [Op.operands]);simp only [uV,I,O,h5] at h ⊢;obtain ⟨u,N,r⟩:=ay h;simp only [N,mV];clear h;split at r
   case h_2=>cases r
   split at r
   case h_2=>cases r
   split at r
   case h_2=>cases r
   split at r
   ·rename_i b;split at r
    case h_2=>cases r
    rename_i tr l g;split at r
    case h_2=>cases r
    rename_i D;obtain ⟨M,hM,Q⟩:=ay r;obtain ⟨L,hL,w⟩:=ay Q;have S:=w;simp only [aw] at S;simp only [B b (by rw [<-S];simp),g,D,hM,hL,mV,w]
   ·exact r
   ·exact r
   ·cases r
  | none=>
  simp only at h ⊢;obtain ⟨u,N,r⟩:=ay h;obtain ⟨l,X,Q⟩:=ay r;obtain ⟨hh,Y,w⟩:=ay Q;simp only [N,X,Y,mV];clear h r Q;split at w
  ·exact w
  ·exact w
  ·split at w
   case h_2=>cases w
   cases u<;>try exact w
   case sl=>rename_i cap;cases cap<;>exact w
   rename_i b;simp only at w ⊢;split at w
   case h_2=>cases w
   rename_i tr m g;split at w
   case h_2=>cases w
   rename_i D;obtain ⟨H1,S⟩:=Q6 w;obtain ⟨L1,q5⟩:=Q3 S;simp only [aw] at q5;rw [B b (by rw [<-q5];simp),g];simp only [D];exact w
  ·cases w
 | makeMap t x=>exact h
 | insert t m x y=>
  simp only [effK,a m (by simp [Op.operands]),a x (by simp [Op.operands]),a y (by simp [Op.operands])] at h ⊢;split at h
  case h_2=>cases h
  rename_i b Z;split at h
  case h_2=>cases h
  split at h
  case h_2=>cases h
  split at h
  case h_2=>cases h
  split at h
  case h_2=>cases h
  rename_i k1 l g;split at h
  case h_2=>cases h
  rename_i G;rw [B b (by rw [<-bn h];simp),g];simp only [G];exact h
 | lookup t m x ok=>
  simp only [effK,a m (by simp [Op.operands]),a x (by simp [Op.operands])] at h ⊢;split at h
  case h_2=>cases h
  rename_i b Z;split at h
  case h_2=>cases h
  split at h
  case h_2=>cases h
  split at h
  case h_2=>cases h
  split at h
  case h_2=>cases h
  rename_i k1 l g;split at h
  case h_2=>cases h
  rename_i G;have T:e.rd=[b]:=by
   clear g;revert h;generalize l=l'
   induction l' with
   | nil=>intro h;cases h
   | cons p l ih=>
    intro h;simp only [mapK] at h;revert h;cases (_==p.1) with
    | true=>intro h;rw [<-bn h]
    | false=>exact ih
  rw [B b (by rw [T];simp),g];simp only [G];exact h
 | fieldAddr t x i=>simp only [effK,a x (by simp [Op.operands])] at h ⊢;exact h
 | field t x i=>simp only [effK,a x (by simp [Op.operands])] at h ⊢;exact h
 | indexAddr t x i=>
  simp only [effK,a x (by simp [Op.operands]),a i (by simp [Op.operands])] at h ⊢;split at h
  case h_2=>cases h
  split at h
  ·exact h
  ·split at h
   ·rename_i hx;first | exact h | (simp only [hx];exact h)
   ·rename_i b hx;split at h
    case h_2=>cases h
    rename_i tr l g;split at h
    case h_2=>cases h
    rename_i D;obtain ⟨j,K,z⟩:=ay h;have A:=z;simp only [aw] at A;simp only [hx,B b (by rw [<-A];simp),g,D,K,mV,z]
   ·rename_i hx;first | exact h | (simp only [hx];exact h)
   ·cases h
  ·cases h
 | index t x i=>simp only [effK,a x (by simp [Op.operands]),a i (by simp [Op.operands])] at h ⊢;exact h
 | range t x=>simp only [effK,a x (by simp [Op.operands])] at h ⊢;exact h
 | typeAssert x xt at_ ok=>simp only [effK,a x (by simp [Op.operands])] at h ⊢;exact h
 | extract x i=>simp only [effK,a x (by simp [Op.operands])] at h ⊢;exact h
 | call cl=>
  have:=nA (ρ:=ρ) (ρ':=ρ') (l:=cl.args.toList) λx hx=>a x (by simp only [Op.operands,Call.operands,xo,lk];exact .inr hx);simp only [effK,this] at h ⊢;split at h
  case h_2=>cases h
  obtain ⟨args,ha,q⟩:=ay h;simp only [ha,mV];split at q
  ·split at q
   ·exact q
   ·exact q
   ·exact q
   ·rename_i b;split at q
    case h_2=>cases q
    split at q
    case h_2=>cases q
    split at q
    case h_2=>cases q
    rename_i g;have C:=q;simp only [aw] at C;simp only [B b (by rw [<-C];simp),g, *]
   ·exact q
   ·rename_i x n1 n2 n3 n4 n5;cases x<;>first | exact q | exact absurd rfl (n1 _) | exact absurd rfl (n2 _ _ _ _) | exact absurd rfl n3 | exact absurd rfl (n4 _) | exact absurd rfl (n5 _ _ _ _ _)
   ·cases q
  ·exact q
  ·exact q
  ·exact q
  ·cases q
 | _=>simp [effK] at h
theorem NL {α:Type} {ρ:Operand->Option V} {H:List (Nat×Blk)} {f:Nat} {op:Op} {c:Eff->Option α} {z:α} (h:effK P ρ H f op c=some z):
  ∃e,effK P ρ H f op some=some e/\c e=some z:=by
 have h':ob (effK P ρ H f op some) c=some z:=(Pn ρ H f op some c).symm.trans h;exact ay h'
theorem C6 {a b:Nat} (h:b<=a):max a b=a:=Nat.max_eq_left h
theorem Dk {α:Type} {E:List Ent} (hE:∀x∈E,ge P x) {n fr:Nat} {s:St} {o:Oper} (hnb:fr+8<=s.nb) {k:St->List Nat->List (Nat×Blk)->Nat->Option α} {kp:V->St->Option α} {z:α}
  (h:DD P E n fr o s k kp=some z):
  (∃val wr rd g,k (s.app o.dst val wr s.nb) rd wr g=some z/\∀s':St,(∀x∈o.op.operands.toList,opd s'.T x=opd s.T x)->(∀b∈rd,look s'.H b=look s.H b)->s'.nb=s.nb->s'.ro=s.ro->
   ∀(ι0:Inj) (w0:Base) (ι:Inj) (a:Act) (w:World),Inv n ι0 w0 ι s' a w->(∀b,fr<=b->b<fr+8->ι b=none)->∀(next:Act->World->Prop) (Q:Exit->Act->World->Prop),
    (∀c C w',(∀b,(b<fr\/fr+8<=b)->c b=ι b)->Inv n ι0 w0 c (s'.app o.dst val wr s'.nb) C w'->next C w')->o.wp P a w next Q)\/
  (∃(v:V) (wr:List (Nat×Blk)) (rd:List Nat),kp v (s.app none none wr s.nb)=some z/\∀s':St,(∀x∈o.op.operands.toList,opd s'.T x=opd s.T x)->(∀b∈rd,look s'.H b=look s.H b)->s'.nb=s.nb->s'.ro=s.ro->
   ∀(ι0:Inj) (w0:Base) (ι:Inj) (a:Act) (w:World),Inv n ι0 w0 ι s' a w->(∀b,fr<=b->b<fr+8->ι b=none)->∀(next:Act->World->Prop) (Q:Exit->Act->World->Prop),
    (∀c x w',VR c v x->Inv n ι0 w0 c (s'.app none none wr s'.nb) a w'->Q (.panic [{ v:=x,recovered:=false }]) a w')->o.wp P a w next Q):=by
 unfold DD at h;split at h
 ·cases h
 rename_i hd;have N:ve P fr o s k=some z->∃val wr rd g,k (s.app o.dst val wr s.nb) rd wr g=some z/\∀s':St,(∀x∈o.op.operands.toList,opd s'.T x=opd s.T x)->(∀b∈rd,look s'.H b=look s.H b)->s'.nb=s.nb->s'.ro=s.ro->
   ∀(ι0:Inj) (w0:Base) (ι:Inj) (a:Act) (w:World),Inv n ι0 w0 ι s' a w->(∀b,fr<=b->b<fr+8->ι b=none)->∀(next:Act->World->Prop) (Q:Exit->Act->World->Prop),
    (∀c C w',(∀b,(b<fr\/fr+8<=b)->c b=ι b)->Inv n ι0 w0 c (s'.app o.dst val wr s'.nb) C w'->next C w')->o.wp P a w next Q:=by
  intro h;unfold ve at h;obtain ⟨e,he,R⟩:=NL h;split at R;rename_i v wr g hne;split at R
  case h_2=>cases R
  rename_i X;simp only [aD] at X;have hg8:=aN X.2;have U:nbOf s.nb fr g=s.nb:=by
   cases g with
   | zero=>rfl
   | succ g=>exact C6 (by omega)
  rw [U] at R;refine ⟨v,wr,e.rd,g,R,λs' h1 G h3 hro ι0 w0 ι a w B m next Q J=>?_⟩;have hf:=m fr (bi _) (by omega);have he':=JG he h1 G;obtain ⟨e',h4,L⟩:=LV B.tmps B.mem hf he';simp only [aw] at h4;subst h4;refine It B hf hd L (λK bb hw=>by
   have:=X.1;unfold roOK at this;rw [hw] at this;simp only [K] at this;rw [hro];exact aN this) λc C w' I g2 d=>?_
  obtain ⟨ι2,k1,k2⟩:=Ea hne d (λb u O Y=>by
   by_cases M:b=fr
   ·subst M;rw [g2 (.inr (Y rfl))];exact hf
   ·rw [I b M];exact m b u (by omega)) (λbb hw K=>gH.new_eq L hw K) (nb:=s'.nb) (by
    split
    ·rw [C6 (by omega)];exact bi _
    ·exact bi _) (by omega)
  exact J ι2 C w' (λb hb'=>by rw [k1 b (by omega)];exact I b (by omega)) k2
 split at h
 ·rename_i cl j;split at h
  ·rename_i g p;split at h
   ·rename_i f cap hg;obtain ⟨l,hl,h⟩:=ay h;obtain ⟨r,G,h3⟩:=wn hE h;split at G
    ·cases G
    rename_i A;simp only [aD] at A;obtain ⟨A,F,q⟩:=A;have q:r.kill=[]:=by simpa using q
    have A:=aN A;rw [C6 (by omega)] at G;split at G
    ·rename_i i;refine .inr ⟨_,_,r.rd,G,λs' u O Y Z ι0 w0 ι a w B m next Q J=>?_⟩;obtain ⟨D,args,tys⟩:=cl;simp only at p;subst p;rw [j] at u;have S:=u g (by simp [Op.operands,Call.operands]);have e5:=nA (ρ:=opd s.T) (ρ':=opd s'.T) (l:=args.toList) λx hx=>u x (by simp only [Op.operands,Call.operands,xo,lk];exact .inr hx);refine BP j B (λb q1 q2=>m b q1 (by omega)) hd (by rw [S];exact hg) (by rw [e5];exact hl) (by rw [Z];exact F) (by rw [q];rfl) (h3 _ O) (λhp=>by rw [hp] at i;cases i) (λ_ c x w' I d=>?_);rw [C6 (by omega)] at d;rw [q] at d;exact J c x w' I d
    rename_i i;refine .inl ⟨_,_,_,_,G,λs' u O Y Z ι0 w0 ι a w B m next Q J=>?_⟩;obtain ⟨D,args,tys⟩:=cl;simp only at p;subst p;rw [j] at u;have S:=u g (by simp [Op.operands,Call.operands]);have e5:=nA (ρ:=opd s.T) (ρ':=opd s'.T) (l:=args.toList) λx hx=>u x (by simp only [Op.operands,Call.operands,xo,lk];exact .inr hx);refine BP j B (λb q1 q2=>m b q1 (by omega)) hd (by rw [S];exact hg) (by rw [e5];exact hl) (by rw [Z];exact F) (by rw [q];rfl) (h3 _ O) (λ_ c C w' I d=>?_) (λhp=>by rw [hp] at i;cases i);rw [C6 (by omega)] at d;rw [q] at I d;exact J c C w' (λb X=>I b rfl (by omega)) d
   ·cases h
  ·exact .inl (N h)
 ·rename_i x j;split at h
  ·rename_i t v hx;refine .inr ⟨_,[],[],h,λs' u O Y Z ι0 w0 ι a w B m next Q J=>?_⟩;rw [j] at u;have S:=u x (by simp [Op.operands]);have hv:=bu B.tmps (by rw [S];exact hx);have hv':=hv;simp only [VR] at hv;obtain ⟨y,h6,_⟩:=hv;unfold Oper.wp;have W:(execOp a.eval o).run P w=.halt (.panic (.iface t y)) w:=by
    simp only [execOp,j,h6,Instr.panic,az,run_goPanic,Result.andThen_halt]
   rw [W];exact J ι _ w (h6▸hv') B
  ·cases h
 ·exact .inl (N h)
end Go.Abs
