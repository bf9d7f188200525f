
import Derived.Test.YtjkmipianfkncaaGreatDoorAbsL
set_option linter.unusedVariables false
set_option linter.unusedSimpArgs false
set_option linter.defProp false
namespace Go.Abs
variable {P:Program}
def np{ρ ρ':Operand->Option V}:∀{l:List Operand},(∀x∈l,ρ' x=ρ x)->opds ρ' l=opds ρ l
 | [],_=>rfl
 | x::l,h=>by
  simp only[opds,h x (by simp),np λy hy=>h y (gm _ hy)]
def pJ{ρ ρ':Operand->Option V}:∀{l:List (Nat×Operand)},(∀x∈l,ρ' x.2=ρ x.2)->pN ρ' l=pN ρ l
 | [],_=>rfl
 | (i,x)::l,h=>by
  have a:ρ' x=ρ x:=h (i,x) (by simp);simp only[pN,a,pJ λy hy=>h y (gm _ hy)]
def vk{ρ ρ':Operand->Option V}{x:Option Operand}(h:∀y,x=some y->ρ' y=ρ y):ql ρ' x=ql ρ x:=by
 cases x with
 | none=>rfl
 | some y=>simp only[ql,h y rfl]
def Pg{α:Type}{n len:Nat}{h:Option Int}{c:Nat->Option α}{z:α}(a:hiK n len h c=some z):∃m,c m=some z:=by
 unfold hiK at a;split at a
 ·exact⟨_,a⟩
 ·obtain⟨m,_,b⟩:=av a;exact⟨m,b⟩
def PR{α:Type}{n:Nat}{h:Option Int}{c:Nat->Option α}{z:α}(a:loK n h c=some z):∃m,c m=some z:=by
 unfold loK at a;split at a
 ·exact⟨_,a⟩
 ·obtain⟨m,_,b⟩:=av a;exact⟨m,b⟩
def Eo{α:Type}{t:TypeId}{blk:Blk}{o:Nat}{v:V}{c:Blk->Option α}{z:α}(h:qp P t blk o v c=some z):∃b,c b=some z:=by
 have h':ob (qp P t blk o v some) c=some z:=(rk t blk o v some c).symm.trans h;obtain⟨b,_,a⟩:=av h';exact⟨b,a⟩
def Ni{H a:List (Nat×Blk)}{u:V}{m:Nat}{rd:List Nat}(h:slL H u=some (m,rd))(e:∀b∈rd,look a b=look H b):slL a u=some (m,rd):=by
 unfold slL at h ⊢;split at h
 ·rename_i c;split at h
  case h_2=>cases h
  rename_i tr l d;simp only[ar,bm]at h;obtain⟨rfl,rfl⟩:=h;simp only[e c (by simp),d]
 ·exact h
 ·cases h
def Ii{ρ ρ':Operand->Option V}{H R:List (Nat×Blk)}{f:Nat}{op:Op}{e:Eff}(h:effK P ρ H f op some=some e)(a:∀x∈op.operands.toList,ρ' x=ρ x)
  (B:∀b∈e.rd,look R b=look H b):effK P ρ' R f op some=some e:=by
 cases op with
 | load t x=>
  have hx:=a x (by simp[Op.operands]);simp only[effK,hx]at h ⊢;split at h
  ·rename_i b o hp;split at h
   ·rename_i blk g;have z:=h;rw[show(λv=>some ({ val:=some v,rd:=[b] }:Eff))=λv=>ob (some v) λv=>some ({ val:=some v,rd:=[b] }:Eff)from rfl,tA]at z;obtain⟨v,_,A⟩:=av z;simp only[ar]at A;have E:=B b (by rw[<-A];simp);simp only[E,g,h]
   ·cases h
  ·rename_i zz b j o hp;split at h
   case h_2=>cases h
   rename_i tr l g;split at h
   case h_2=>cases h
   rename_i D;obtain⟨xr,J,z⟩:=av h;have h'':=z;rw[show(λv=>some ({ val:=some v,rd:=[b] }:Eff))=λv=>ob (some v) λv=>some ({ val:=some v,rd:=[b] }:Eff)from rfl,tA]at z;obtain⟨v,_,A⟩:=av z;simp only[ar]at A;have E:=B b (by rw[<-A];simp);simp only[E,g,D,J,mH,h'']
  ·cases h
 | makeSlice t x y=>simp only[effK,a x (by simp[Op.operands]),a y (by simp[Op.operands])]at h ⊢;exact h
 | store t x y=>
  have hx:=a x (by simp[Op.operands]);have hy:=a y (by simp[Op.operands]);simp only[effK,hx,hy]at h ⊢;split at h
  ·rename_i b o hp;obtain⟨v,F,h⟩:=av h;split at h
   ·rename_i blk g;have z:=h;rw[show(λk=>some ({ val:=none,rd:=[b],wr:=some (b,k) }:Eff))=λk=>ob (some k) λk=>some ({ val:=none,rd:=[b],wr:=some (b,k) }:Eff)from rfl,rk]at z;obtain⟨v',_,A⟩:=av z;simp only[ar]at A;have E:=B b (by rw[<-A];simp);simp only[F,mH,E,g,h]
   ·cases h
  ·rename_i zz b j o hp;obtain⟨v,F,z⟩:=av h;split at z
   case h_2=>cases z
   rename_i tr l g;split at z
   case h_2=>cases z
   rename_i D;obtain⟨xr,J,K⟩:=av z;have A:=K;obtain⟨k,I⟩:=Eo K;split at I
   case h_2=>cases I
   obtain⟨x',_,Q⟩:=av I;simp only[ar]at Q;have E:=B b (by rw[<-Q];simp);simp only[F,mH,E,g,D,J,A]
  ·cases h
 | move x=>simp only[effK,a x (by simp[Op.operands])]at h ⊢;exact h
 | assign x=>simp only[effK,a x (by simp[Op.operands])]at h ⊢;exact h
 | pick c x y=>simp only[effK,a c (by simp[Op.operands]),a x (by simp[Op.operands]),a y (by simp[Op.operands])]at h ⊢;exact h
 | alloc t=>exact h
 | box t x=>simp only[effK,a x (by simp[Op.operands])]at h ⊢;exact h
 | build t X=>
  have:=pJ (ρ:=ρ) (ρ':=ρ') (l:=X.toList) λx hx=>a x.2 (by simp only[Op.operands,eU];exact⟨x,hx,rfl⟩);simp only[effK,this]at h ⊢;exact h
 | buildSlice t n X=>
  have:=pJ (ρ:=ρ) (ρ':=ρ') (l:=X.toList) λx hx=>a x.2 (by simp only[Op.operands,eU];exact⟨x,hx,rfl⟩);simp only[effK,this]at h ⊢;exact h
 | nilCheck x=>simp only[effK,a x (by simp[Op.operands])]at h ⊢;exact h
 | binOp o t x y yt=>
  simp only[effK,a x (by simp[Op.operands]),a y (by simp[Op.operands])]at h ⊢;obtain⟨u,N,h⟩:=av h;obtain⟨v,F,h⟩:=av h;rw[N,F];simp only[mH];split at h
  ·exact h
  ·split at h
   ·split at h
    case h_2=>cases h
    rename_i m rd Z;obtain⟨T,h⟩:=eZ h;have U:=Ni Z λb g=>B b (by rw[<-aW h];exact g);rw[U];simp only[T,aj];exact h
   ·exact h
 | unOp o t x=>simp only[effK,a x (by simp[Op.operands])]at h ⊢;exact h
 | convert s d x=>
  simp only[effK,a x (by simp[Op.operands])]at h ⊢;obtain⟨v,F,q⟩:=av h;rw[F];simp only[mH];have key:∀b,e.rd=[b]->look R b=look H b:=λb he=>B b (by rw[he];simp);cases v<;>try exact q
  ·rename_i b;split at q
   case h_2=>cases q
   split at q
   ·cases q
   ·simp only at q ⊢;split at q
    case h_2=>cases q
    split at q
    case h_2=>cases q
    split at q
    case h_2=>cases q
    rename_i g;have C:=q;simp only[ar]at C;rw[key b (by rw[<-C]),g];exact q
   ·split at q<;>cases q
   ·cases q
  ·rename_i zz b j n _;split at q
   case h_2=>cases q
   split at q
   ·cases q
   ·simp only at q ⊢;split at q
    case h_2=>cases q
    split at q
    case h_2=>cases q
    split at q
    case h_2=>cases q
    rename_i g;split at q
    case h_2=>cases q
    rename_i D;obtain⟨hc,C⟩:=eZ q;simp only[ar]at C;rw[key b (by rw[<-C]),g];simp only[D];exact q
   ·split at q<;>cases q
   ·cases q
  ·rename_i b o m cap;split at q
   case h_2=>cases q
   split at q
   ·cases q
   ·simp only at q ⊢;split at q
    case h_2=>cases q
    split at q
    case h_2=>cases q
    split at q
    case h_2=>cases q
    rename_i g;obtain⟨hc,C⟩:=eZ q;simp only[ar]at C;rw[key b (by rw[<-C]),g];exact q
   ·split at q<;>cases q
   ·cases q
 | next x str=>
  have hx:=a x (by simp[Op.operands]);simp only[effK,hx]at h ⊢;split at h
  case h_2=>cases h
  rename_i b hp;split at h
  case h_2=>cases h
  rename_i l pos g;have E:look R b=look H b:=B b (by
   cases hc:Nat.blt pos l.length<;>rw[hc]at h<;>simp only[aj,af,ar]at h<;>rw[<-h]<;>simp)
  simp only[E,g];exact h
 | makeInterface t x=>simp only[effK,a x (by simp[Op.operands])]at h ⊢;exact h
 | makeFunc fn first cap=>
  have:=np (ρ:=ρ) (ρ':=ρ') (l:=cap.toList) λx hx=>a x (by simp only[Op.operands,xp,mF];exact .inr hx);have A:=np (ρ:=ρ) (ρ':=ρ') (l:=first.toList) λx hx=>a x (by simp only[Op.operands,xp,mF];exact .inl hx);simp only[effK,this,A]at h ⊢;exact h
 | slice t x lo hi mx=>
  have K:=a x (by simp[Op.operands]);have A:=vk (ρ:=ρ) (ρ':=ρ') (x:=lo) λy hy=>a y (by simp[Op.operands,hy]);have I:=vk (ρ:=ρ) (ρ':=ρ') (x:=hi) λy hy=>a y (by simp[Op.operands,hy]);simp only[effK,K,A,I]at h ⊢;cases mx with
  | some m=>
   simp only at h ⊢;have Q:=a m (by simp[Op.operands]);cases lo with
   | some _=>exact h
   | none=>
   cases hi with
   | none=>exact h
   | some F=>
   have h5:=a F (by simp[Op.operands]);simp only[uI,K,Q,h5]at h ⊢;obtain⟨u,N,r⟩:=av h;simp only[N,mH];clear h;split at r
   case h_2=>cases r
   split at r
   case h_2=>cases r
   split at r
   case h_2=>cases r
   split at r
   ·rename_i b;split at r
    case h_2=>cases r
    rename_i tr l g;split at r
    case h_2=>cases r
    rename_i D;obtain⟨M,hM,O⟩:=av r;obtain⟨L,hL,w⟩:=av O;have S:=w;simp only[ar]at S;simp only[B b (by rw[<-S];simp),g,D,hM,hL,mH,w]
   ·exact r
   ·exact r
   ·cases r
  | none=>
  simp only at h ⊢;obtain⟨u,N,r⟩:=av h;obtain⟨l,Z,O⟩:=av r;obtain⟨hh,Y,w⟩:=av O;simp only[N,Z,Y,mH];clear h r O;split at w
  ·exact w
  ·exact w
  ·split at w
   case h_2=>cases w
   cases u<;>try exact w
   case sl=>rename_i cap;cases cap<;>exact w
   rename_i b;simp only at w ⊢;split at w
   case h_2=>cases w
   rename_i tr m g;split at w
   case h_2=>cases w
   rename_i D;obtain⟨H1,S⟩:=Pg w;obtain⟨L1,q5⟩:=PR S;simp only[ar]at q5;rw[B b (by rw[<-q5];simp),g];simp only[D];exact w
  ·cases w
 | makeMap t x=>exact h
 | insert t m x y=>
  simp only[effK,a m (by simp[Op.operands]),a x (by simp[Op.operands]),a y (by simp[Op.operands])]at h ⊢;split at h
  case h_2=>cases h
  rename_i b T;split at h
  case h_2=>cases h
  split at h
  case h_2=>cases h
  split at h
  case h_2=>cases h
  split at h
  case h_2=>cases h
  rename_i k1 l g;split at h
  case h_2=>cases h
  rename_i G;rw[B b (by rw[<-aW h];simp),g];simp only[G];exact h
 | lookup t m x ok=>
  simp only[effK,a m (by simp[Op.operands]),a x (by simp[Op.operands])]at h ⊢;split at h
  case h_2=>cases h
  rename_i b T;split at h
  case h_2=>cases h
  split at h
  case h_2=>cases h
  split at h
  case h_2=>cases h
  split at h
  case h_2=>cases h
  rename_i k1 l g;split at h
  case h_2=>cases h
  rename_i G;have W:e.rd=[b]:=by
   clear g;revert h;generalize l=l'
   induction l' with
   | nil=>intro h;cases h
   | cons p l ih=>
    intro h;simp only[mapK]at h;revert h;cases(_==p.1)with
    | true=>intro h;rw[<-aW h]
    | false=>exact ih
  rw[B b (by rw[W];simp),g];simp only[G];exact h
 | fieldAddr t x i=>simp only[effK,a x (by simp[Op.operands])]at h ⊢;exact h
 | field t x i=>simp only[effK,a x (by simp[Op.operands])]at h ⊢;exact h
 | indexAddr t x i=>
  simp only[effK,a x (by simp[Op.operands]),a i (by simp[Op.operands])]at h ⊢;split at h
  case h_2=>cases h
  split at h
  ·exact h
  ·split at h
   ·rename_i hx;first | exact h | (simp only[hx];exact h)
   ·rename_i b hx;split at h
    case h_2=>cases h
    rename_i tr l g;split at h
    case h_2=>cases h
    rename_i D;obtain⟨j,J,z⟩:=av h;have A:=z;simp only[ar]at A;simp only[hx,B b (by rw[<-A];simp),g,D,J,mH,z]
   ·rename_i hx;first | exact h | (simp only[hx];exact h)
   ·cases h
  ·cases h
 | index t x i=>simp only[effK,a x (by simp[Op.operands]),a i (by simp[Op.operands])]at h ⊢;exact h
 | range t x=>simp only[effK,a x (by simp[Op.operands])]at h ⊢;exact h
 | typeAssert x xt at_ ok=>simp only[effK,a x (by simp[Op.operands])]at h ⊢;exact h
 | extract x i=>simp only[effK,a x (by simp[Op.operands])]at h ⊢;exact h
 | call cl=>
  have:=np (ρ:=ρ) (ρ':=ρ') (l:=cl.args.toList) λx hx=>a x (by simp only[Op.operands,Call.operands,xp,mF];exact .inr hx);simp only[effK,this]at h ⊢;split at h
  case h_2=>cases h
  obtain⟨args,ha,q⟩:=av h;simp only[ha,mH];split at q
  ·split at q
   ·exact q
   ·exact q
   ·exact q
   ·rename_i b;split at q
    case h_2=>cases q
    split at q
    case h_2=>cases q
    split at q
    case h_2=>cases q
    rename_i g;have C:=q;simp only[ar]at C;simp only[B b (by rw[<-C];simp),g, *]
   ·exact q
   ·rename_i x n1 n2 n3 n4 n5;cases x<;>first | exact q | exact absurd rfl (n1 _) | exact absurd rfl (n2 _ _ _ _) | exact absurd rfl n3 | exact absurd rfl (n4 _) | exact absurd rfl (n5 _ _ _ _ _)
   ·cases q
  ·exact q
  ·exact q
  ·exact q
  ·cases q
 | _=>simp[effK]at h
def Jr{α:Type}{ρ:Operand->Option V}{H:List (Nat×Blk)}{f:Nat}{op:Op}{c:Eff->Option α}{z:α}(h:effK P ρ H f op c=some z):
  ∃e,effK P ρ H f op some=some e/\c e=some z:=by
 have h':ob (effK P ρ H f op some) c=some z:=(OD ρ H f op some c).symm.trans h;exact av h'
def BK{a b:Nat}(h:b<=a):max a b=a:=Nat.max_eq_left h
def BP {α:Type} {E:List Ent} (hE:∀x∈E,gg P x) {n fr:Nat} {s:St} {o:Oper} (hnb:fr+8<=s.nb) {k:St->List Nat->List (Nat×Blk)->Nat->Option α} {kp:V->St->Option α} {z:α}
  (h:D8 P E n fr o s k kp=some z):
  (∃val wr rd g,k (s.app o.dst val wr s.nb) rd wr g=some z/\∀s':St,(∀x∈o.op.operands.toList,opd s'.T x=opd s.T x)->(∀b∈rd,look s'.H b=look s.H b)->s'.nb=s.nb->s'.ro=s.ro->
   ∀(ι0:Inj) (w0:Base) (ι:Inj) (a:Act) (w:World),Inv n ι0 w0 ι s' a w->(∀b,fr<=b->b<fr+8->ι b=none)->∀(next:Act->World->Prop) (Q:Exit->Act->World->Prop),
    (∀c D w',(∀b,(b<fr\/fr+8<=b)->c b=ι b)->Inv n ι0 w0 c (s'.app o.dst val wr s'.nb) D w'->next D w')->o.wp P a w next Q)\/
  (∃(v:V) (wr:List (Nat×Blk)) (rd:List Nat),kp v (s.app none none wr s.nb)=some z/\∀s':St,(∀x∈o.op.operands.toList,opd s'.T x=opd s.T x)->(∀b∈rd,look s'.H b=look s.H b)->s'.nb=s.nb->s'.ro=s.ro->
   ∀(ι0:Inj) (w0:Base) (ι:Inj) (a:Act) (w:World),Inv n ι0 w0 ι s' a w->(∀b,fr<=b->b<fr+8->ι b=none)->∀(next:Act->World->Prop) (Q:Exit->Act->World->Prop),
    (∀c x w',VR c v x->Inv n ι0 w0 c (s'.app none none wr s'.nb) a w'->Q (.panic [{ v:=x,recovered:=false }]) a w')->o.wp P a w next Q):=by
 unfold D8 at h;split at h
 ·cases h
 rename_i hd;have L:um P (A8 E) fr o s k=some z->∃val wr rd g,k (s.app o.dst val wr s.nb) rd wr g=some z/\∀s':St,(∀x∈o.op.operands.toList,opd s'.T x=opd s.T x)->(∀b∈rd,look s'.H b=look s.H b)->s'.nb=s.nb->s'.ro=s.ro->
   ∀(ι0:Inj) (w0:Base) (ι:Inj) (a:Act) (w:World),Inv n ι0 w0 ι s' a w->(∀b,fr<=b->b<fr+8->ι b=none)->∀(next:Act->World->Prop) (Q:Exit->Act->World->Prop),
    (∀c D w',(∀b,(b<fr\/fr+8<=b)->c b=ι b)->Inv n ι0 w0 c (s'.app o.dst val wr s'.nb) D w'->next D w')->o.wp P a w next Q:=by
  intro h;unfold um at h;obtain ⟨e,he,S⟩:=Jr h;split at S;rename_i v wr g hne;split at S
  case h_2=>cases S
  rename_i Y;simp only [aC] at Y;have hg8:=aH Y.2;have U:nbOf s.nb fr g=s.nb:=by
   cases g with
   | zero=>rfl
   | succ g=>exact BK (by omega)
  rw [U] at S;refine ⟨v,wr,e.rd,g,S,λs' h1 F h3 hro ι0 w0 ι a w B m next Q J=>?_⟩;have hf:=m fr (aQ _) (by omega);have he':=Ii he h1 F;obtain ⟨e',h4,M⟩:=Lh B.tmps B.mem hf he';simp only [ar] at h4;subst h4;refine Hq B hf hd M (λI bb hw=>by
   have:=Y.1;unfold roOK at this;rw [hw] at this;simp only [I] at this;rw [hro];exact aH this) λc D w' K g2 d=>?_
  obtain ⟨ι2,k1,k2⟩:=zg hne d (λb u N Z=>by
   by_cases W:b=fr
   ·subst W;rw [g2 (.inr (Z rfl))];exact hf
   ·rw [K b W];exact m b u (by omega)) (λbb hw I=>gH.new_eq M hw I) (nb:=s'.nb) (by
    split
    ·rw [BK (by omega)];exact aQ _
    ·exact aQ _) (by omega)
  exact J ι2 D w' (λb hb'=>by rw [k1 b (by omega)];exact K b (by omega)) k2
 split at h
 ·rename_i cl j;split at h
  ·rename_i g p;split at h
   ·rename_i f cap hg;obtain ⟨l,hl,h⟩:=av h;obtain ⟨r,F,h3⟩:=vG hE h;split at F
    ·cases F
    rename_i A;simp only [aC] at A;obtain ⟨A,G,q⟩:=A;have q:r.kill=[]:=by simpa using q
    have A:=aH A;rw [BK (by omega)] at F;split at F
    ·rename_i i;refine .inr ⟨_,_,r.rd,F,λs' u N Z X ι0 w0 ι a w B m next Q J=>?_⟩;obtain ⟨C,args,tys⟩:=cl;simp only at p;subst p;rw [j] at u;have O:=u g (by simp [Op.operands,Call.operands]);have e5:=np (ρ:=opd s.T) (ρ':=opd s'.T) (l:=args.toList) λx hx=>u x (by simp only [Op.operands,Call.operands,xp,mF];exact .inr hx);refine zP j B (λb q1 q2=>m b q1 (by omega)) hd (by rw [O];exact hg) (by rw [e5];exact hl) (by rw [X];exact G) (by rw [q];rfl) (h3 _ N) (λhp=>by rw [hp] at i;cases i) (λ_ c x w' K d=>?_);rw [BK (by omega)] at d;rw [q] at d;exact J c x w' K d
    rename_i i;refine .inl ⟨_,_,_,_,F,λs' u N Z X ι0 w0 ι a w B m next Q J=>?_⟩;obtain ⟨C,args,tys⟩:=cl;simp only at p;subst p;rw [j] at u;have O:=u g (by simp [Op.operands,Call.operands]);have e5:=np (ρ:=opd s.T) (ρ':=opd s'.T) (l:=args.toList) λx hx=>u x (by simp only [Op.operands,Call.operands,xp,mF];exact .inr hx);refine zP j B (λb q1 q2=>m b q1 (by omega)) hd (by rw [O];exact hg) (by rw [e5];exact hl) (by rw [X];exact G) (by rw [q];rfl) (h3 _ N) (λ_ c D w' K d=>?_) (λhp=>by rw [hp] at i;cases i);rw [BK (by omega)] at d;rw [q] at K d;exact J c D w' (λb Y=>K b rfl (by omega)) d
   ·cases h
  ·exact .inl (L h)
 ·rename_i x j;split at h
  ·rename_i t v hx;refine .inr ⟨_,[],[],h,λs' u N Z X ι0 w0 ι a w B m next Q J=>?_⟩;rw [j] at u;have O:=u x (by simp [Op.operands]);have hv:=br B.tmps (by rw [O];exact hx);have hv':=hv;simp only [VR] at hv;obtain ⟨y,h6,_⟩:=hv;unfold Oper.wp;have R:(execOp a.eval o).run P w=.halt (.panic (.iface t y)) w:=by
    simp only [execOp,j,h6,Instr.panic,aw,run_goPanic,Result.andThen_halt]
   rw [R];exact J ι _ w (h6▸hv') B
  ·cases h
 ·exact .inl (L h)
end Go.Abs
