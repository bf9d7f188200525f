
import Derived.Test.YtibehcmomiplnaaGreatDoorAbsL
set_option linter.unusedVariables false
set_option linter.unusedSimpArgs false
set_option linter.defProp false
namespace Go.Abs
variable {P:Program}
def od{ρ ρ':Operand->Option V}:∀{l:List Operand},(∀x∈l,ρ' x=ρ x)->opds ρ' l=opds ρ l
 | [],_=>rfl
 | x::l,h=>by
  simp only[opds,h x (by simp),od λy hy=>h y (fV _ hy)]
def qV{ρ ρ':Operand->Option V}:∀{l:List (Nat×Operand)},(∀x∈l,ρ' x.2=ρ x.2)->qF ρ' l=qF ρ l
 | [],_=>rfl
 | (i,x)::l,h=>by
  have a:ρ' x=ρ x:=h (i,x) (by simp);simp only[qF,a,qV λy hy=>h y (fV _ hy)]
def wa{ρ ρ':Operand->Option V}{x:Option Operand}(h:∀y,x=some y->ρ' y=ρ y):rl ρ' x=rl ρ x:=by
 cases x with
 | none=>rfl
 | some y=>simp only[rl,h y rfl]
def P9{α:Type}{n len:Nat}{h:Option Int}{c:Nat->Option α}{z:α}(a:hiK n len h c=some z):∃m,c m=some z:=by
 unfold hiK at a;split at a
 ·exact⟨_,a⟩
 ·obtain⟨m,_,b⟩:=ax a;exact⟨m,b⟩
def RS{α:Type}{n:Nat}{h:Option Int}{c:Nat->Option α}{z:α}(a:loK n h c=some z):∃m,c m=some z:=by
 unfold loK at a;split at a
 ·exact⟨_,a⟩
 ·obtain⟨m,_,b⟩:=ax a;exact⟨m,b⟩
def GX{α:Type}{t:TypeId}{blk:Blk}{o:Nat}{v:V}{c:Blk->Option α}{z:α}(h:rV P t blk o v c=some z):∃b,c b=some z:=by
 have h':ob (rV P t blk o v some) c=some z:=(sS t blk o v some c).symm.trans h;obtain⟨b,_,a⟩:=ax h';exact⟨b,a⟩
def L9{H a:List (Nat×Blk)}{u:V}{m:Nat}{rd:List Nat}(h:slL H u=some (m,rd))(e:∀b∈rd,look a b=look H b):slL a u=some (m,rd):=by
 unfold slL at h ⊢;split at h
 ·rename_i c;split at h
  case h_2=>cases h
  rename_i tr l d;simp only[ar,bm]at h;obtain⟨rfl,rfl⟩:=h;simp only[e c (by simp),d]
 ·exact h
 ·cases h
def J0{ρ ρ':Operand->Option V}{H S:List (Nat×Blk)}{f:Nat}{op:Op}{e:Eff}(h:effK P ρ H f op some=some e)(a:∀x∈op.operands.toList,ρ' x=ρ x)
  (B:∀b∈e.rd,look S b=look H b):effK P ρ' S f op some=some e:=by
 cases op with
 | load t x=>
  have hx:=a x (by simp[Op.operands]);simp only[effK,hx]at h ⊢;split at h
  ·rename_i b o hp;split at h
   ·rename_i blk g;have z:=h;rw[show(λv=>some ({ val:=some v,rd:=[b] }:Eff))=λv=>ob (some v) λv=>some ({ val:=some v,rd:=[b] }:Eff)from rfl,uC]at z;obtain⟨v,_,A⟩:=ax z;simp only[ar]at A;have E:=B b (by rw[<-A];simp);simp only[E,g,h]
   ·cases h
  ·rename_i zz b j o hp;split at h
   case h_2=>cases h
   rename_i tr l g;split at h
   case h_2=>cases h
   rename_i C;obtain⟨xr,J,z⟩:=ax h;have h'':=z;rw[show(λv=>some ({ val:=some v,rd:=[b] }:Eff))=λv=>ob (some v) λv=>some ({ val:=some v,rd:=[b] }:Eff)from rfl,uC]at z;obtain⟨v,_,A⟩:=ax z;simp only[ar]at A;have E:=B b (by rw[<-A];simp);simp only[E,g,C,J,nB,h'']
  ·cases h
 | makeSlice t x y=>simp only[effK,a x (by simp[Op.operands]),a y (by simp[Op.operands])]at h ⊢;exact h
 | store t x y=>
  have hx:=a x (by simp[Op.operands]);have hy:=a y (by simp[Op.operands]);simp only[effK,hx,hy]at h ⊢;split at h
  ·rename_i b o hp;obtain⟨v,F,h⟩:=ax h;split at h
   ·rename_i blk g;have z:=h;rw[show(λk=>some ({ val:=none,rd:=[b],wr:=some (b,k) }:Eff))=λk=>ob (some k) λk=>some ({ val:=none,rd:=[b],wr:=some (b,k) }:Eff)from rfl,sS]at z;obtain⟨v',_,A⟩:=ax z;simp only[ar]at A;have E:=B b (by rw[<-A];simp);simp only[F,nB,E,g,h]
   ·cases h
  ·rename_i zz b j o hp;obtain⟨v,F,z⟩:=ax h;split at z
   case h_2=>cases z
   rename_i tr l g;split at z
   case h_2=>cases z
   rename_i C;obtain⟨xr,J,I⟩:=ax z;have A:=I;obtain⟨k,N⟩:=GX I;split at N
   case h_2=>cases N
   obtain⟨x',_,O⟩:=ax N;simp only[ar]at O;have E:=B b (by rw[<-O];simp);simp only[F,nB,E,g,C,J,A]
  ·cases h
 | move x=>simp only[effK,a x (by simp[Op.operands])]at h ⊢;exact h
 | assign x=>simp only[effK,a x (by simp[Op.operands])]at h ⊢;exact h
 | pick c x y=>simp only[effK,a c (by simp[Op.operands]),a x (by simp[Op.operands]),a y (by simp[Op.operands])]at h ⊢;exact h
 | alloc t=>exact h
 | box t x=>simp only[effK,a x (by simp[Op.operands])]at h ⊢;exact h
 | build t T=>
  have:=qV (ρ:=ρ) (ρ':=ρ') (l:=T.toList) λx hx=>a x.2 (by simp only[Op.operands,eD];exact⟨x,hx,rfl⟩);simp only[effK,this]at h ⊢;exact h
 | buildSlice t n T=>
  have:=qV (ρ:=ρ) (ρ':=ρ') (l:=T.toList) λx hx=>a x.2 (by simp only[Op.operands,eD];exact⟨x,hx,rfl⟩);simp only[effK,this]at h ⊢;exact h
 | nilCheck x=>simp only[effK,a x (by simp[Op.operands])]at h ⊢;exact h
 | binOp o t x y yt=>
  simp only[effK,a x (by simp[Op.operands]),a y (by simp[Op.operands])]at h ⊢;obtain⟨u,K,h⟩:=ax h;obtain⟨v,F,h⟩:=ax h;rw[K,F];simp only[nB];split at h
  ·exact h
  ·split at h
   ·split at h
    case h_2=>cases h
    rename_i m rd Z;obtain⟨Y,h⟩:=ei h;have U:=L9 Z λb g=>B b (by rw[<-bp h];exact g);rw[U];simp only[Y,aj];exact h
   ·exact h
 | unOp o t x=>simp only[effK,a x (by simp[Op.operands])]at h ⊢;exact h
 | convert s d x=>
  simp only[effK,a x (by simp[Op.operands])]at h ⊢;obtain⟨v,F,q⟩:=ax h;rw[F];simp only[nB];have key:∀b,e.rd=[b]->look S b=look H b:=λb he=>B b (by rw[he];simp);cases v<;>try exact q
  ·rename_i b;split at q
   case h_2=>cases q
   split at q
   ·cases q
   ·simp only at q ⊢;split at q
    case h_2=>cases q
    split at q
    case h_2=>cases q
    split at q
    case h_2=>cases q
    rename_i g;have D:=q;simp only[ar]at D;rw[key b (by rw[<-D]),g];exact q
   ·split at q<;>cases q
   ·cases q
  ·rename_i zz b j n _;split at q
   case h_2=>cases q
   split at q
   ·cases q
   ·simp only at q ⊢;split at q
    case h_2=>cases q
    split at q
    case h_2=>cases q
    split at q
    case h_2=>cases q
    rename_i g;split at q
    case h_2=>cases q
    rename_i C;obtain⟨hc,D⟩:=ei q;simp only[ar]at D;rw[key b (by rw[<-D]),g];simp only[C];exact q
   ·split at q<;>cases q
   ·cases q
  ·rename_i b o m cap;split at q
   case h_2=>cases q
   split at q
   ·cases q
   ·simp only at q ⊢;split at q
    case h_2=>cases q
    split at q
    case h_2=>cases q
    split at q
    case h_2=>cases q
    rename_i g;obtain⟨hc,D⟩:=ei q;simp only[ar]at D;rw[key b (by rw[<-D]),g];exact q
   ·split at q<;>cases q
   ·cases q
 | next x str=>
  have hx:=a x (by simp[Op.operands]);simp only[effK,hx]at h ⊢;split at h
  case h_2=>cases h
  rename_i b hp;split at h
  case h_2=>cases h
  rename_i l pos g;have E:look S b=look H b:=B b (by
   cases hc:Nat.blt pos l.length<;>rw[hc]at h<;>simp only[aj,ah,ar]at h<;>rw[<-h]<;>simp)
  simp only[E,g];exact h
 | makeInterface t x=>simp only[effK,a x (by simp[Op.operands])]at h ⊢;exact h
 | makeFunc fn first cap=>
  have:=od (ρ:=ρ) (ρ':=ρ') (l:=cap.toList) λx hx=>a x (by simp only[Op.operands,xJ,ln];exact .inr hx);have A:=od (ρ:=ρ) (ρ':=ρ') (l:=first.toList) λx hx=>a x (by simp only[Op.operands,xJ,ln];exact .inl hx);simp only[effK,this,A]at h ⊢;exact h
 | slice t x lo hi mx=>
  have I:=a x (by simp[Op.operands]);have A:=wa (ρ:=ρ) (ρ':=ρ') (x:=lo) λy hy=>a y (by simp[Op.operands,hy]);have N:=wa (ρ:=ρ) (ρ':=ρ') (x:=hi) λy hy=>a y (by simp[Op.operands,hy]);simp only[effK,I,A,N]at h ⊢;cases mx with
  | some m=>
   simp only at h ⊢;have O:=a m (by simp[Op.operands]);cases lo with
   | some _=>exact h
   | none=>
   cases hi with
   | none=>exact h
   | some F=>
   have h5:=a F (by simp[Op.operands]);simp only[vo,I,O,h5]at h ⊢;obtain⟨u,K,r⟩:=ax h;simp only[K,nB];clear h;split at r
   case h_2=>cases r
   split at r
   case h_2=>cases r
   split at r
   case h_2=>cases r
   split at r
   ·rename_i b;split at r
    case h_2=>cases r
    rename_i tr l g;split at r
    case h_2=>cases r
    rename_i C;obtain⟨M,hM,R⟩:=ax r;obtain⟨L,hL,w⟩:=ax R;have Q:=w;simp only[ar]at Q;simp only[B b (by rw[<-Q];simp),g,C,hM,hL,nB,w]
   ·exact r
   ·exact r
   ·cases r
  | none=>
  simp only at h ⊢;obtain⟨u,K,r⟩:=ax h;obtain⟨l,Z,R⟩:=ax r;obtain⟨hh,W,w⟩:=ax R;simp only[K,Z,W,nB];clear h r R;split at w
  ·exact w
  ·exact w
  ·split at w
   case h_2=>cases w
   cases u<;>try exact w
   case sl=>rename_i cap;cases cap<;>exact w
   rename_i b;simp only at w ⊢;split at w
   case h_2=>cases w
   rename_i tr m g;split at w
   case h_2=>cases w
   rename_i C;obtain⟨H1,Q⟩:=P9 w;obtain⟨L1,q5⟩:=RS Q;simp only[ar]at q5;rw[B b (by rw[<-q5];simp),g];simp only[C];exact w
  ·cases w
 | makeMap t x=>exact h
 | insert t m x y=>
  simp only[effK,a m (by simp[Op.operands]),a x (by simp[Op.operands]),a y (by simp[Op.operands])]at h ⊢;split at h
  case h_2=>cases h
  rename_i b Y;split at h
  case h_2=>cases h
  split at h
  case h_2=>cases h
  split at h
  case h_2=>cases h
  split at h
  case h_2=>cases h
  rename_i k1 l g;split at h
  case h_2=>cases h
  rename_i G;rw[B b (by rw[<-bp h];simp),g];simp only[G];exact h
 | lookup t m x ok=>
  simp only[effK,a m (by simp[Op.operands]),a x (by simp[Op.operands])]at h ⊢;split at h
  case h_2=>cases h
  rename_i b Y;split at h
  case h_2=>cases h
  split at h
  case h_2=>cases h
  split at h
  case h_2=>cases h
  split at h
  case h_2=>cases h
  rename_i k1 l g;split at h
  case h_2=>cases h
  rename_i G;have X:e.rd=[b]:=by
   clear g;revert h;generalize l=l'
   induction l' with
   | nil=>intro h;cases h
   | cons p l ih=>
    intro h;simp only[mapK]at h;revert h;cases(_==p.1)with
    | true=>intro h;rw[<-bp h]
    | false=>exact ih
  rw[B b (by rw[X];simp),g];simp only[G];exact h
 | fieldAddr t x i=>simp only[effK,a x (by simp[Op.operands])]at h ⊢;exact h
 | field t x i=>simp only[effK,a x (by simp[Op.operands])]at h ⊢;exact h
 | indexAddr t x i=>
  simp only[effK,a x (by simp[Op.operands]),a i (by simp[Op.operands])]at h ⊢;split at h
  case h_2=>cases h
  split at h
  ·exact h
  ·split at h
   ·rename_i hx;first | exact h | (simp only[hx];exact h)
   ·rename_i b hx;split at h
    case h_2=>cases h
    rename_i tr l g;split at h
    case h_2=>cases h
    rename_i C;obtain⟨j,J,z⟩:=ax h;have A:=z;simp only[ar]at A;simp only[hx,B b (by rw[<-A];simp),g,C,J,nB,z]
   ·rename_i hx;first | exact h | (simp only[hx];exact h)
   ·cases h
  ·cases h
 | index t x i=>simp only[effK,a x (by simp[Op.operands]),a i (by simp[Op.operands])]at h ⊢;exact h
 | range t x=>simp only[effK,a x (by simp[Op.operands])]at h ⊢;exact h
 | typeAssert x xt at_ ok=>simp only[effK,a x (by simp[Op.operands])]at h ⊢;exact h
 | extract x i=>simp only[effK,a x (by simp[Op.operands])]at h ⊢;exact h
 | call cl=>
  have:=od (ρ:=ρ) (ρ':=ρ') (l:=cl.args.toList) λx hx=>a x (by simp only[Op.operands,Call.operands,xJ,ln];exact .inr hx);simp only[effK,this]at h ⊢;split at h
  case h_2=>cases h
  obtain⟨args,ha,q⟩:=ax h;simp only[ha,nB];split at q
  ·split at q
   ·exact q
   ·exact q
   ·exact q
   ·rename_i b;split at q
    case h_2=>cases q
    split at q
    case h_2=>cases q
    split at q
    case h_2=>cases q
    rename_i g;have D:=q;simp only[ar]at D;simp only[B b (by rw[<-D];simp),g, *]
   ·exact q
   ·rename_i x n1 n2 n3 n4 n5;cases x<;>first | exact q | exact absurd rfl (n1 _) | exact absurd rfl (n2 _ _ _ _) | exact absurd rfl n3 | exact absurd rfl (n4 _) | exact absurd rfl (n5 _ _ _ _ _)
   ·cases q
  ·exact q
  ·exact q
  ·exact q
  ·cases q
 | _=>simp[effK]at h
def Ln{α:Type}{ρ:Operand->Option V}{H:List (Nat×Blk)}{f:Nat}{op:Op}{c:Eff->Option α}{z:α}(h:effK P ρ H f op c=some z):
  ∃e,effK P ρ H f op some=some e/\c e=some z:=by
 have h':ob (effK P ρ H f op some) c=some z:=(QP ρ H f op some c).symm.trans h;exact ax h'
def Et{a b:Nat}(h:b<=a):max a b=a:=Nat.max_eq_left h
def E3 {α:Type} {E:List Ent} (hE:∀x∈E,fQ P x) {n fr:Nat} {s:St} {o:Oper} (hnb:fr+8<=s.nb) {k:St->List Nat->List (Nat×Blk)->Nat->Option α} {kp:V->St->Option α} {z:α}
  (h:DG P E n fr o s k kp=some z):
  (∃val wr rd g,k (s.app o.dst val wr s.nb) rd wr g=some z/\∀s':St,(∀x∈o.op.operands.toList,opd s'.T x=opd s.T x)->(∀b∈rd,look s'.H b=look s.H b)->s'.nb=s.nb->s'.ro=s.ro->
   ∀(ι0:Inj) (w0:Base) (ι:Inj) (a:Act) (w:World),Inv n ι0 w0 ι s' a w->(∀b,fr<=b->b<fr+8->ι b=none)->∀(next:Act->World->Prop) (Q:Exit->Act->World->Prop),
    (∀c D w',(∀b,(b<fr\/fr+8<=b)->c b=ι b)->Inv n ι0 w0 c (s'.app o.dst val wr s'.nb) D w'->next D w')->o.wp P a w next Q)\/
  (∃(v:V) (wr:List (Nat×Blk)) (rd:List Nat),kp v (s.app none none wr s.nb)=some z/\∀s':St,(∀x∈o.op.operands.toList,opd s'.T x=opd s.T x)->(∀b∈rd,look s'.H b=look s.H b)->s'.nb=s.nb->s'.ro=s.ro->
   ∀(ι0:Inj) (w0:Base) (ι:Inj) (a:Act) (w:World),Inv n ι0 w0 ι s' a w->(∀b,fr<=b->b<fr+8->ι b=none)->∀(next:Act->World->Prop) (Q:Exit->Act->World->Prop),
    (∀c x w',VR c v x->Inv n ι0 w0 c (s'.app none none wr s'.nb) a w'->Q (.panic [{ v:=x,recovered:=false }]) a w')->o.wp P a w next Q):=by
 unfold DG at h;split at h
 ·cases h
 rename_i hd;have W:vD P (Bi E) fr o s k=some z->∃val wr rd g,k (s.app o.dst val wr s.nb) rd wr g=some z/\∀s':St,(∀x∈o.op.operands.toList,opd s'.T x=opd s.T x)->(∀b∈rd,look s'.H b=look s.H b)->s'.nb=s.nb->s'.ro=s.ro->
   ∀(ι0:Inj) (w0:Base) (ι:Inj) (a:Act) (w:World),Inv n ι0 w0 ι s' a w->(∀b,fr<=b->b<fr+8->ι b=none)->∀(next:Act->World->Prop) (Q:Exit->Act->World->Prop),
    (∀c D w',(∀b,(b<fr\/fr+8<=b)->c b=ι b)->Inv n ι0 w0 c (s'.app o.dst val wr s'.nb) D w'->next D w')->o.wp P a w next Q:=by
  intro h;unfold vD at h;obtain ⟨e,he,O⟩:=Ln h;split at O;rename_i v wr g hne;split at O
  case h_2=>cases O
  rename_i Z;simp only [aA] at Z;have hg8:=aM Z.2;have R:nbOf s.nb fr g=s.nb:=by
   cases g with
   | zero=>rfl
   | succ g=>exact Et (by omega)
  rw [R] at O;refine ⟨v,wr,e.rd,g,O,λs' h1 G h3 hro ι0 w0 ι a w B j next Q J=>?_⟩;have hf:=j fr (bg _) (by omega);have he':=J0 he h1 G;obtain ⟨e',h4,L⟩:=Np B.tmps B.mem hf he';simp only [ar] at h4;subst h4;refine IU B hf hd L (λK bb hw=>by
   have:=Z.1;unfold roOK at this;rw [hw] at this;simp only [K] at this;rw [hro];exact aM this) λc D w' I g2 d=>?_
  obtain ⟨ι2,k1,k2⟩:=Ac hne d (λb u N Y=>by
   by_cases S:b=fr
   ·subst S;rw [g2 (.inr (Y rfl))];exact hf
   ·rw [I b S];exact j b u (by omega)) (λbb hw K=>gY.new_eq L hw K) (nb:=s'.nb) (by
    split
    ·rw [Et (by omega)];exact bg _
    ·exact bg _) (by omega)
  exact J ι2 D w' (λb hb'=>by rw [k1 b (by omega)];exact I b (by omega)) k2
 split at h
 ·rename_i cl m;split at h
  ·rename_i g p;split at h
   ·rename_i f cap hg;obtain ⟨l,hl,h⟩:=ax h;obtain ⟨r,G,h3⟩:=wI hE h;split at G
    ·cases G
    rename_i A;simp only [aA] at A;obtain ⟨A,F,q⟩:=A;have q:r.kill=[]:=by simpa using q
    have A:=aM A;rw [Et (by omega)] at G;split at G
    ·rename_i i;refine .inr ⟨_,_,r.rd,G,λs' u N Y X ι0 w0 ι a w B j next Q J=>?_⟩;obtain ⟨C,args,tys⟩:=cl;simp only at p;subst p;rw [m] at u;have M:=u g (by simp [Op.operands,Call.operands]);have e5:=od (ρ:=opd s.T) (ρ':=opd s'.T) (l:=args.toList) λx hx=>u x (by simp only [Op.operands,Call.operands,xJ,ln];exact .inr hx);refine C3 m B (λb q1 q2=>j b q1 (by omega)) hd (by rw [M];exact hg) (by rw [e5];exact hl) (by rw [X];exact F) (by rw [q];rfl) (h3 _ N) (λhp=>by rw [hp] at i;cases i) (λ_ c x w' I d=>?_);rw [Et (by omega)] at d;rw [q] at d;exact J c x w' I d
    rename_i i;refine .inl ⟨_,_,_,_,G,λs' u N Y X ι0 w0 ι a w B j next Q J=>?_⟩;obtain ⟨C,args,tys⟩:=cl;simp only at p;subst p;rw [m] at u;have M:=u g (by simp [Op.operands,Call.operands]);have e5:=od (ρ:=opd s.T) (ρ':=opd s'.T) (l:=args.toList) λx hx=>u x (by simp only [Op.operands,Call.operands,xJ,ln];exact .inr hx);refine C3 m B (λb q1 q2=>j b q1 (by omega)) hd (by rw [M];exact hg) (by rw [e5];exact hl) (by rw [X];exact F) (by rw [q];rfl) (h3 _ N) (λ_ c D w' I d=>?_) (λhp=>by rw [hp] at i;cases i);rw [Et (by omega)] at d;rw [q] at I d;exact J c D w' (λb Z=>I b rfl (by omega)) d
   ·cases h
  ·exact .inl (W h)
 ·rename_i x m;split at h
  ·rename_i t v hx;refine .inr ⟨_,[],[],h,λs' u N Y X ι0 w0 ι a w B j next Q J=>?_⟩;rw [m] at u;have M:=u x (by simp [Op.operands]);have hv:=bv B.tmps (by rw [M];exact hx);have hv':=hv;simp only [VR] at hv;obtain ⟨y,h6,_⟩:=hv;unfold Oper.wp;have U:(execOp a.eval o).run P w=.halt (.panic (.iface t y)) w:=by
    simp only [execOp,m,h6,Instr.panic,ay,run_goPanic,Result.andThen_halt]
   rw [U];exact J ι _ w (h6▸hv') B
  ·cases h
 ·exact .inl (W h)
end Go.Abs
