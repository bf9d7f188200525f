
import Derived.Test.YtadejcglcffgbaaGreatDoorAbsF
set_option linter.unusedSimpArgs false
set_option linter.unusedVariables false
set_option linter.defProp false
namespace Go.Abs
variable {P:Program}
def qh(o j:Nat):padd o j=o+j:=by
 unfold padd;cases h:Nat.beq o 0 with
 | true=>have:o=0:=bB h;simp[this]
 | false=>rfl
def y6(j s:Nat):pmul j s=j*s:=by
 unfold pmul;cases h:Nat.beq s 1 with
 | true=>have:s=1:=bB h;simp[this]
 | false=>rfl
def oZ{n j:Nat}{i:Int}(h:ix n i=some j):0<=i/\i<n/\j=i.toNat:=by
 unfold ix at h;split at h
 ·rename_i hc;simp only[aq]at h;exact⟨hc.1,hc.2,h.symm⟩
 ·cases h
def lW{n j:Nat}{i:Int}(h:bx n i=some j):0<=i/\i<=n/\j=i.toNat:=by
 unfold bx at h;split at h
 ·rename_i hc;simp only[aq]at h;exact⟨hc.1,hc.2,h.symm⟩
 ·cases h
def pI{ι:Inj}{T:List (Nat×Option V)}{a:Act}(c:TR ι T a.tmps){x:Option Operand}{l:Option Int}(h:rl (opd T) x=some l):
  (l=none/\x.map a.eval=none)\/∃k n,l=some n/\x.map a.eval=some (.int k n):=by
 unfold rl at h;split at h
 ·simp only[aq]at h;subst h;exact .inl ⟨rfl,rfl⟩
 ·split at h
  ·rename_i k n b;simp only[aq]at h;subst h;have:=bz c b;simp only[VR]at this;exact .inr ⟨k,n,rfl,by simp[this]⟩
  ·cases h
def xU{α:Type}{ι:Inj}{T:List (Nat×Option V)}{a:Act}(r:TR ι T a.tmps){lo hi:Option Operand}{l h:Option Int}(x:rl (opd T) lo=some l)
  (u:rl (opd T) hi=some h) {n len:Nat} {isSlice:Bool} {c:Nat->Nat->Option α} {z:α} (f:(hiK n len h λh=>loK h l λl=>c h l)=some z):
  ∃H L,c H L=some z/\(h=none\/H<=n)/\(h=none->H=len)/\(h≠none->H<=n)/\L<=H/\(l=none->L=0)/\
   ∀w,(Instr.sliceBounds isSlice len n (lo.map a.eval) (hi.map a.eval) none).run P w=.ok (L,H,n) w:=by
 have o:∀{H:Nat},loK H l (c H)=some z->∃L,c H L=some z/\L<=H/\(l=none->L=0)/\
   ∀w,(match lo.map a.eval with | some v=>Instr.sliceBound v H .sliceB | none=>pure 0).run P w=.ok L w:=by
  intro H f;rcases pI r x with⟨rfl,g⟩ | ⟨k,m,rfl,g⟩
  ·exact⟨0,f,jr _,λ_=>rfl,λw=>by rw[g];rfl⟩
  ·simp only[loK]at f;obtain⟨L,i,j⟩:=ax f;obtain⟨g0,p,rfl⟩:=lW i;exact⟨_,j,by omega,by simp,λw=>by rw[g];exact run_sliceBound w k m H .sliceB g0 p⟩
 rcases pI r u with⟨rfl,g⟩ | ⟨k,m,rfl,g⟩
 ·simp only[hiK]at f;obtain⟨L,i,j,q,d⟩:=o f;refine⟨len,L,i,.inl rfl,λ_=>rfl,by simp,j,q,λw=>?_⟩;have d:=d w;rw[g];simp only[Instr.sliceBounds,az,aD,aA,wK,bQ,aF];cases b:lo.map a.eval with
  | none=>rw[b]at d;simp only[aD,yg,tw]at d;simp[d]
  | some v=>rw[b]at d;simp only[]at d;simp[d]
 ·simp only[hiK]at f;obtain⟨H,i,j⟩:=ax f;obtain⟨g0,p,rfl⟩:=lW i;obtain⟨L,q,d,t,e⟩:=o j;refine⟨_,L,q,.inr (by omega),by simp,λ_=>by omega,d,t,λw=>?_⟩;have e:=e w;rw[g];have s:=run_sliceBound (P:=P) w k m n (if isSlice=true then .sliceAcap else .sliceAlen) g0 p;simp only[Instr.sliceBounds,az,aD,aA,wK,bQ,aF,s];cases b:lo.map a.eval with
  | none=>rw[b]at e;simp only[aD,yg,tw]at e;simp[e]
  | some v=>rw[b]at e;simp only[]at e;simp[e]
section ops
variable {α:Type} {ι:Inj} {s:St} {a:Act} {w:World} {f:Nat} {o:Oper} {c:Eff->Option α} {z:α}
def QI{t:TypeId}{x:Operand}(D:o.op=.load t x)(B:TR ι s.T a.tmps)(C:WR ι s.H s.nb w)(h:effK P (opd s.T) s.H f (.load t x) c=some z):
  ∃e,c e=some z/\gR P ι f o a w e:=by
 simp only[effK]at h;split at h
 ·rename_i b off hx;split at h
  ·rename_i blk n;obtain⟨v,X,r,u,I,A,y⟩:=Jp C n h;have i:=bz B hx;simp only[VR]at i;obtain⟨O,d,m⟩:=i;rw[I]at d;cases d;exact⟨_,u,.val (by simp only[execOp,D,m,az,A,aA,aD]) y⟩
  ·cases h
 ·rename_i V b j off hx;split at h
  case h_2=>cases h
  rename_i tr l n;split at h
  case h_2=>cases h
  rename_i p;have p:=bB p;subst p;obtain⟨E,L,h⟩:=ax h;have i:=bz B hx;simp only[VR]at i;obtain⟨q,d,m⟩:=i;rcases jJ C n with⟨Q,U,e,fr,g,J,N,S,R,F,M⟩ | ⟨g,_⟩
  ·rw[d]at g;cases g;obtain⟨K,W⟩:=SD F L;have G:l.length*tr.length<=q.k*tr.length:=o7 _ (by omega);rw[<-ig]at m;obtain⟨v,X,u,A,y⟩:=Qi (o:=off) J (by rw[kP,K];exact(nW ι tr E _).2 rfl) (by rw[kP];omega) h;exact⟨_,u,.val (by simp only[execOp,D,m,az,A,aA,aD]) y⟩
  ·rw[d]at g;cases g
 ·cases h
def LU{t:TypeId}{x y:Operand}(U:o.op=.store t x y)(C:TR ι s.T a.tmps)(S:WR ι s.H s.nb w)(h:effK P (opd s.T) s.H f (.store t x y) c=some z):
  ∃e,c e=some z/\gR P ι f o a w e:=by
 simp only[effK]at h;split at h
 ·rename_i b off hx;obtain⟨v,hy,h⟩:=ax h;split at h
  ·rename_i blk D;obtain⟨R,I,r,g,G,J,M⟩:=Ln S D (bz C hy) h;have u:=bz C hx;simp only[VR]at u;obtain⟨r',d,A⟩:=u;rw[G]at d;cases d;refine⟨_,g,?_⟩;unfold gR;exact⟨r,G,λ_=>⟨I,.skip,by simp only[execOp,U,A,az,J,aA,aD],M,.skip rfl⟩⟩
  ·cases h
 ·rename_i zz b j off hx;obtain⟨v,hy,N⟩:=ax h;clear h;have h:=N;clear N;split at h
  case h_2=>cases h
  rename_i tr l D;split at h
  case h_2=>cases h
  rename_i m;have m:=bB m;subst m;obtain⟨Y,L,h⟩:=ax h;have u:=bz C hx;simp only[VR]at u;obtain⟨q,d,A⟩:=u;rcases jJ S D with⟨q',Q,e,fr,p,g2,W,Z,g5,O,V⟩ | ⟨p,_⟩
  ·rw[d]at p;cases p;obtain⟨r1,r2⟩:=SD O L;have hle:l.length*tr.length<=q.k*tr.length:=o7 _ (by omega);rw[<-ig]at A;obtain⟨l',X,g,G,J,M⟩:=Lm (o:=off) (fr:=fr) g2 (by rw[kP,r1];exact(nW ι tr Y _).2 rfl) (by rw[kP];omega) (bz C hy) h;simp only at g;obtain⟨B,K,g⟩:=ax g;have hX:X=vals tr B:=(nW ι tr B X).1 (by rw[<-wo K];exact J);subst hX;have E:j<l.length:=by
    rcases aJ j l.length with F | F
    ·exact F
    ·rw[f7 F]at L;cases L
   have i:(splA Q (q.o+j*tr.length) (vals tr B)).size=Q.size:=xg (by rw[gS];omega);refine⟨_,g,?_⟩;unfold gR;refine⟨q,d,λm=>?_⟩;have n:=V.resolve_left (by rw[m];simp);refine⟨_,.skip,by simp only[execOp,U,A,az,M n,aA,aD];rfl,⟨_,e,fr,rfl,by rw[FI];exact W,Z,by rw[i];exact g5,?_,.inr (by rw[i];exact n)⟩,.skip rfl⟩;exact QR (by omega) O B E
  ·rw[d]at p;cases p
 ·cases h
def Nw{t:TypeId}(j:o.op=.alloc t)(h:effK P (opd s.T) s.H f (.alloc t) c=some z):∃e,c e=some z/\gR P ι f o a w e:=by
 simp only[effK]at h;obtain⟨v,b,h⟩:=ax h;obtain⟨x,i,l,k,g,d⟩:=wj (upd ι f (some (Rf.of w.heap.size (0) (0)))) b;refine⟨_,h,.mk (x:=.pointer (some ⟨w.heap.size,0,none⟩)) (ob:=.cells x.cells t) ?_ (IV (Tf g) t) ?_⟩
 ·simp only[execOp,j,Instr.alloc,az,d,aA,newVar,newRow,yy,aD,xW]
 ·simp only[VR];exact⟨_,dJ _ _ _,rfl⟩
def UB{t:TypeId}{x:Operand}(b:o.op=.box t x)(i:TR ι s.T a.tmps)(g:ι f=none)(h:effK P (opd s.T) s.H f (.box t x) c=some z):
  ∃e,c e=some z/\gR P ι f o a w e:=by
 simp only[effK]at h;obtain⟨v,d,h⟩:=ax h;have hv':=bz i d;refine⟨_,h,.mk (x:=.pointer (some ⟨w.heap.size,0,none⟩)) (ob:=.cells (a.eval x).cells t) ?_ (IV (VR.mono (qA g) _ _ hv') t) ?_⟩
 ·simp only[execOp,b,Instr.box,az,aA,newVar,newRow,yy,aD,xW]
 ·simp only[VR];exact⟨_,dJ _ _ _,rfl⟩
def JY(a:List Field)(h:(a.all λfd=>Nat.blt 0 (P.cellsOf fd.type))=true)(w:World):
  (a.mapM λ(f:Field)=>do pure (f.offset,<-sizeOf f.type)).run P w=.ok (Eu P a) w:=by
 induction a with
 | nil=>rfl
 | cons fd a ih=>
  simp only[m7,aB]at h;obtain⟨i,hi⟩:=cg h.1;have ih:=ih h.2;simp only[xK,az,gk hi,aA,aD,ih];rfl
def Lt{t:TypeId}{g:Array (Nat×Operand)}(F:o.op=.build t g)(J:TR ι s.T a.tmps)(h:effK P (opd s.T) s.H f (.build t g) c=some z):
  ∃e,c e=some z/\gR P ι f o a w e:=by
 simp only[effK]at h;obtain⟨L,A,h⟩:=ax h;obtain⟨B,hp,h⟩:=ax h;obtain⟨x,i,O,N,K,E⟩:=wj ι A;obtain⟨D,G⟩:=vd J _ _ hp;have m:=nL K;have j:(g.map λ(i,x)=>(i,a.eval x)).toList=g.toList.map λ(i,x)=>(i,a.eval x):=by simp
 split at h
 ·rename_i p v;split at h
  ·rename_i k;obtain⟨l,y,h⟩:=ax h;obtain⟨r,b,d⟩:=wg _ _ (g.toList.map λ(i,x)=>(i,a.eval x)) _ _ _ m D (by simp[VRs]) G y;refine⟨_,h,.val (x:=.agg r) ?_ (by simp only[VR];exact⟨r,rfl,d⟩)⟩;have I:(p.mapM λ(f:Field)=>do pure (f.offset,<-sizeOf f.type)).run P w=.ok (Eu P p.toList).toArray w:=by
    rw[SY];simp only[Sem.run_map,JY p.toList k,aA]
   have u:(λ(i:Nat)=>(Eu P p.toList).toArray[i]?)=λ(i:Nat)=>(Eu P p.toList)[i]?:=by
    funext i;simp
   simp only[execOp,F,Instr.build,az,E,aA,be v,I,u,j,b,aD]
  ·cases h
 ·rename_i n e v;split at h
  ·rename_i q;obtain⟨M,C⟩:=cg q;obtain⟨l,y,h⟩:=ax h;obtain⟨r,b,d⟩:=wg _ _ (g.toList.map λ(i,x)=>(i,a.eval x)) _ _ _ m D (by simp[VRs]) G y;refine⟨_,h,.val (x:=.agg r) ?_ (qp d)⟩;simp only[execOp,F,Instr.build,az,E,aA,be v,gk C,j,b,aD]
  ·cases h
 ·cases h
def yq(l:List V):∀n,(Bv l n).length=n*l.length
 | 0=>by simp[Bv]
 | n+1=>by simp[Bv,yq l n,ia,oP]
def Qm{ι:Inj}{l:List V}{a:Array Value}(h:VRs ι l a.toList)(m:0<l.length):∀n,VRs ι (Bv l n) ((Array.range (n*l.length)).map (a[·%a.size]!)).toList:=by
 have b:a.size=l.length:=by simpa using h.length
 intro n;refine VRs.of_get (by simp[yq]) λj v x d hx=>?_;have key:∀n j v,(Bv l n)[j]?=some v->l[j%l.length]?=some v:=by
  intro n
  induction n with
  | zero=>intro j v h;simp[Bv]at h
  | succ n ih=>
   intro j v h;simp only[Bv]at h;by_cases c:j<l.length
   ·rw[n6 c]at h;rw[qj c];exact h
   ·rw[qQ (by omega)]at h;have:=ih _ _ h;rwa[<-Nat.mod_eq_sub_mod (by omega)]at this
 have k:=key n j v d;obtain⟨y,hy,e⟩:=h.get k;have f:j<n*l.length:=by
  rcases aJ j (n*l.length)with i | i
  ·exact i
  ·rw[f7 (by rw[yq];omega)]at d;cases d
 have g:j%l.length<a.size:=by rw[b];exact rt _ m
 have:x=a[j%a.size]! := by
  simp[f]at hx;exact hx.symm
 rw[this,b];have hy':a[j%l.length]?=some y:=by simpa using hy
 have:a[j%l.length]! = y:=by
  rw[getElem!_def,hy']
 rw[this];exact e
def za{t e:TypeId}{n:Nat}{zc:Value}{i:TypeInfo}{g:Array (Nat×Value)}{h:Array Value}{w:World}(j:P.underlying t=some (.slice e))(hi:P.info? e=some i)
  (f:n*P.cellsOf e<=1000) (k:∀w,(zeroValue e).run P w=.ok zc w)
  (a:Instr.fill (λi=>some (i*P.cellsOf e,P.cellsOf e)) ((Array.range (n*P.cellsOf e)).map (zc.cells[·%zc.cells.size]!)) g.toList=some h):
  (Instr.buildSlice t n g).run P w=.ok (.slice (some ⟨w.heap.size,0,none⟩) n n) (w.alloc (.cells h e)):=by
 have c:¬(n*P.cellsOf e>2 ^ 24):=Nat.not_lt.2 (qZ f (by decide));unfold Instr.buildSlice;simp only[az,aA,be j,gk hi];rw[ab c];by_cases d:n*P.cellsOf e=0
 ·rw[ae d];have b:Array.range 0=#[]:=rfl;rw[d]at a ⊢;rw[b,IB]at a;simp only[az,aD,aA,b,IB,a,newRow,yy,xW]
 ·rw[ab d];simp only[az,k,aD,aA,a,newRow,yy,xW]
def zi{t:TypeId}{n:Nat}{A:Array (Nat×Operand)}(K:o.op=.buildSlice t n A)(Q:TR ι s.T a.tmps)(O:ι f=none)(h:effK P (opd s.T) s.H f (.buildSlice t n A) c=some z):
  ∃e,c e=some z/\gR P ι f o a w e:=by
 simp only[effK]at h;split at h
 ·rename_i e N;split at h
  ·rename_i J;simp only[aB]at J;obtain⟨F,k⟩:=J;obtain⟨Z,I⟩:=cg k;obtain⟨Y,D,h⟩:=ax h;obtain⟨G,hp,h⟩:=ax h;split at h
   ·rename_i b;have b:=bB b;obtain⟨l,W,h⟩:=ax h;obtain⟨x,i,h1,h2,V,U⟩:=wj ι D;obtain⟨S,X⟩:=vd Q _ _ hp;have E:=nL V;have B:(A.map λ(i,x)=>(i,a.eval x)).toList=A.toList.map λ(i,x)=>(i,a.eval x):=by simp
    have hpos':0<P.cellsOf e:=aI k;have v:=Qm E (by omega) n;rw[b]at v;obtain⟨y,g,j⟩:=wg _ _ (A.toList.map λ(i,x)=>(i,a.eval x)) _ _ _ v S (by simp[VRs]) X W;rw[<-B]at g;have p:=za (w:=w) N I (aI F) U g;split at h
    ·rename_i tr R;split at h
     case h_2=>cases h
     rename_i u;simp only[aB,js]at u;obtain⟨M,L⟩:=u;obtain⟨m,C,h⟩:=ax h;obtain⟨m1,m2⟩:=Ff C (by rw[L,M]);have r:y.size=n*tr.length:=by rw[M,<-L];simpa using j.length
     rw[m2]at j;refine⟨_,h,.mkR (d:=w.drawn) (q:=(Rf.of w.heap.size (n) (n))) (x:=.slice (some ⟨w.heap.size,0,none⟩) n n) (ob:=.cells y e) ?_ rfl rfl
      ⟨y,e,(0,0),rfl,m1,aU _,by rw[r];simp,?_,.inr (tD _)⟩ ?_⟩
     ·simp only[execOp,K,az,p,aA,aD]
     ·rw[<-H6 ι m _ j,m1];simp only[cS];exact jw (by rw[Nj,r];exact aU _)
     ·simp only[VR];exact .inl ⟨_,dJ _ _ _,rfl⟩
    ·refine⟨_,h,.mk (x:=.slice (some ⟨w.heap.size,0,none⟩) n n) (ob:=.cells y e) ?_ ⟨y,e,(0,0),rfl,VRs.mono (qA O) _ _ j,tD _⟩ ?_⟩
     ·simp only[execOp,K,az,p,aA,aD]
     ·simp only[VR];exact⟨_,n,dJ _ _ _,λm C=>by simpa using C,aU _,rfl⟩
   ·cases h
  ·cases h
 ·cases h
def LJ{t:TypeId}{x:Operand}(d:o.op=.range t x)(i:TR ι s.T a.tmps)(h:effK P (opd s.T) s.H f (.range t x) c=some z):
  ∃e,c e=some z/\gR P ι f o a w e:=by
 simp only[effK]at h;split at h
 ·rename_i g;split at h
  ·rename_i l hx;have b:=bz i hx;simp only[VR]at b;refine⟨_,h,.mk (x:=.pointer (some ⟨w.heap.size,0,none⟩)) (ob:=.stringIter ⟨l.toArray⟩ 0) ?_ rfl (by simp only[VR];exact⟨_,dJ _ _ _,rfl⟩)⟩;simp only[execOp,d,Instr.range,az,aA,be g,b,aD,yy,xW]
  ·cases h
 ·cases h
end ops
end Go.Abs
