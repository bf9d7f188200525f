
import Derived.Test.YtibehcmomiplnabGreatDoorAbsF
set_option linter.unusedSimpArgs false
set_option linter.unusedVariables false
set_option linter.defProp false
namespace Go.Abs
variable {P:Program}
def sJ(o j:Nat):padd o j=o+j:=by
 unfold padd;cases h:Nat.beq o 0 with
 | true=>have:o=0:=bO h;simp[this]
 | false=>rfl
def AQ(j s:Nat):pmul j s=j*s:=by
 unfold pmul;cases h:Nat.beq s 1 with
 | true=>have:s=1:=bO h;simp[this]
 | false=>rfl
def qT{n j:Nat}{i:Int}(h:ix n i=some j):0<=i/\i<n/\j=i.toNat:=by
 unfold ix at h;split at h
 ·rename_i hc;simp only[aw]at h;exact⟨hc.1,hc.2,h.symm⟩
 ·cases h
def np{n j:Nat}{i:Int}(h:bx n i=some j):0<=i/\i<=n/\j=i.toNat:=by
 unfold bx at h;split at h
 ·rename_i hc;simp only[aw]at h;exact⟨hc.1,hc.2,h.symm⟩
 ·cases h
def ru{ι:Inj}{T:List (Nat×Option V)}{a:Act}(c:TR ι T a.tmps){x:Option Operand}{l:Option Int}(h:tZ (opd T) x=some l):
  (l=none/\x.map a.eval=none)\/∃k n,l=some n/\x.map a.eval=some (.int k n):=by
 unfold tZ at h;split at h
 ·simp only[aw]at h;subst h;exact .inl ⟨rfl,rfl⟩
 ·split at h
  ·rename_i k n b;simp only[aw]at h;subst h;have:=bL c b;simp only[VR]at this;exact .inr ⟨k,n,rfl,by simp[this]⟩
  ·cases h
def zA{α:Type}{ι:Inj}{T:List (Nat×Option V)}{a:Act}(r:TR ι T a.tmps){lo hi:Option Operand}{l h:Option Int}(s:tZ (opd T) lo=some l)
  (x:tZ (opd T) hi=some h) {n len:Nat} {isSlice:Bool} {c:Nat->Nat->Option α} {z:α} (e:(hiK n len h λh=>loK h l λl=>c h l)=some z):
  ∃H L,c H L=some z/\(h=none\/H<=n)/\(h=none->H=len)/\(h≠none->H<=n)/\L<=H/\(l=none->L=0)/\
   ∀w,(Instr.sliceBounds isSlice len n (lo.map a.eval) (hi.map a.eval) none).run P w=.ok (L,H,n) w:=by
 have j:∀{H:Nat},loK H l (c H)=some z->∃L,c H L=some z/\L<=H/\(l=none->L=0)/\
   ∀w,(match lo.map a.eval with | some v=>Instr.sliceBound v H .sliceB | none=>pure 0).run P w=.ok L w:=by
  intro H e;rcases ru r s with⟨rfl,g⟩ | ⟨k,m,rfl,g⟩
  ·exact⟨0,e,lc _,λ_=>rfl,λw=>by rw[g];rfl⟩
  ·simp only[loK]at e;obtain⟨L,o,i⟩:=ax e;obtain⟨g0,q,rfl⟩:=np o;exact⟨_,i,by omega,by simp,λw=>by rw[g];exact run_sliceBound w k m H .sliceB g0 q⟩
 rcases ru r x with⟨rfl,g⟩ | ⟨k,m,rfl,g⟩
 ·simp only[hiK]at e;obtain⟨L,o,i,p,d⟩:=j e;refine⟨len,L,o,.inl rfl,λ_=>rfl,by simp,i,p,λw=>?_⟩;have d:=d w;rw[g];simp only[Instr.sliceBounds,ay,aH,aE,zl,bI,aF];cases b:lo.map a.eval with
  | none=>rw[b]at d;simp only[aH,Aa,vv]at d;simp[d]
  | some v=>rw[b]at d;simp only[]at d;simp[d]
 ·simp only[hiK]at e;obtain⟨H,o,i⟩:=ax e;obtain⟨g0,q,rfl⟩:=np o;obtain⟨L,p,d,t,f⟩:=j i;refine⟨_,L,p,.inr (by omega),by simp,λ_=>by omega,d,t,λw=>?_⟩;have f:=f w;rw[g];have u:=run_sliceBound (P:=P) w k m n (if isSlice=true then .sliceAcap else .sliceAlen) g0 q;simp only[Instr.sliceBounds,ay,aH,aE,zl,bI,aF,u];cases b:lo.map a.eval with
  | none=>rw[b]at f;simp only[aH,Aa,vv]at f;simp[f]
  | some v=>rw[b]at f;simp only[]at f;simp[f]
section ops
variable {α:Type} {ι:Inj} {s:St} {a:Act} {w:World} {f:Nat} {o:Oper} {c:Eff->Option α} {z:α}
def R9{t:TypeId}{x:Operand}(B:o.op=.load t x)(C:TR ι s.T a.tmps)(D:WR ι s.H s.nb w)(h:effK P (opd s.T) s.H f (.load t x) c=some z):
  ∃e,c e=some z/\iJ P ι f o a w e:=by
 simp only[effK]at h;split at h
 ·rename_i b off hx;split at h
  ·rename_i blk u;obtain⟨v,X,r,y,J,p,n⟩:=KE D u h;have d:=bL C hx;simp only[VR]at d;obtain⟨S,i,m⟩:=d;rw[J]at i;cases i;exact⟨_,y,.val (by simp only[execOp,B,m,ay,p,aE,aH]) n⟩
  ·cases h
 ·rename_i N b j off hx;split at h
  case h_2=>cases h
  rename_i tr l u;split at h
  case h_2=>cases h
  rename_i A;have A:=bO A;subst A;obtain⟨E,L,h⟩:=ax h;have d:=bL C hx;simp only[VR]at d;obtain⟨q,i,m⟩:=d;rcases kM D u with⟨U,Q,e,fr,g,G,V,M,W,I,O⟩ | ⟨g,_⟩
  ·rw[i]at g;cases g;obtain⟨K,R⟩:=U2 I L;have F:l.length*tr.length<=q.k*tr.length:=qX _ (by omega);rw[<-iy]at m;obtain⟨v,X,y,p,n⟩:=RO (o:=off) G (by rw[mu,K];exact(qD ι tr E _).2 rfl) (by rw[mu];omega) h;exact⟨_,y,.val (by simp only[execOp,B,m,ay,p,aE,aH]) n⟩
  ·rw[i]at g;cases g
 ·cases h
def ON{t:TypeId}{x y:Operand}(R:o.op=.store t x y)(C:TR ι s.T a.tmps)(U:WR ι s.H s.nb w)(h:effK P (opd s.T) s.H f (.store t x y) c=some z):
  ∃e,c e=some z/\iJ P ι f o a w e:=by
 simp only[effK]at h;split at h
 ·rename_i b off hx;obtain⟨v,hy,h⟩:=ax h;split at h
  ·rename_i blk F;obtain⟨S,I,r,g,J,E,D⟩:=P6 U F (bL C hy) h;have m:=bL C hx;simp only[VR]at m;obtain⟨r',d,B⟩:=m;rw[J]at d;cases d;refine⟨_,g,?_⟩;unfold iJ;exact⟨r,J,λ_=>⟨I,.skip,by simp only[execOp,R,B,ay,E,aE,aH],D,.skip rfl⟩⟩
  ·cases h
 ·rename_i zz b j off hx;obtain⟨v,hy,N⟩:=ax h;clear h;have h:=N;clear N;split at h
  case h_2=>cases h
  rename_i tr l F;split at h
  case h_2=>cases h
  rename_i u;have u:=bO u;subst u;obtain⟨W,M,h⟩:=ax h;have m:=bL C hx;simp only[VR]at m;obtain⟨q,d,B⟩:=m;rcases kM U F with⟨q',Q,e,fr,p,g2,g3,V,g5,O,Z⟩ | ⟨p,_⟩
  ·rw[d]at p;cases p;obtain⟨r1,r2⟩:=U2 O M;have Y:l.length*tr.length<=q.k*tr.length:=qX _ (by omega);rw[<-iy]at B;obtain⟨l',X,g,J,E,D⟩:=Oa (o:=off) (fr:=fr) g2 (by rw[mu,r1];exact(qD ι tr W _).2 rfl) (by rw[mu];omega) (bL C hy) h;simp only at g;obtain⟨A,K,g⟩:=ax g;have hX:X=vals tr A:=(qD ι tr A X).1 (by rw[<-yI K];exact E);subst hX;have G:j<l.length:=by
    rcases aN j l.length with L | L
    ·exact L
    ·rw[gS L]at M;cases M
   have i:(splA Q (q.o+j*tr.length) (vals tr A)).size=Q.size:=y6 (by rw[iK];omega);refine⟨_,g,?_⟩;unfold iJ;refine⟨q,d,λu=>?_⟩;have n:=Z.resolve_left (by rw[u];simp);refine⟨_,.skip,by simp only[execOp,R,B,ay,D n,aE,aH];rfl,⟨_,e,fr,rfl,by rw[IH];exact g3,V,by rw[i];exact g5,?_,.inr (by rw[i];exact n)⟩,.skip rfl⟩;exact SD (by omega) O A G
  ·rw[d]at p;cases p
 ·cases h
def Qo{t:TypeId}(b:o.op=.alloc t)(h:effK P (opd s.T) s.H f (.alloc t) c=some z):∃e,c e=some z/\iJ P ι f o a w e:=by
 simp only[effK]at h;obtain⟨v,j,h⟩:=ax h;obtain⟨x,i,k,l,g,d⟩:=yO (upd ι f (some (Rf.of w.heap.size (0) (0)))) j;refine⟨_,h,.mk (x:=.pointer (some ⟨w.heap.size,0,none⟩)) (ob:=.cells x.cells t) ?_ (LN (XH g) t) ?_⟩
 ·simp only[execOp,b,Instr.alloc,ay,d,aE,newVar,newRow,zj,aH,An]
 ·simp only[VR];exact⟨_,ek _ _ _,rfl⟩
def Yk{t:TypeId}{x:Operand}(b:o.op=.box t x)(i:TR ι s.T a.tmps)(g:ι f=none)(h:effK P (opd s.T) s.H f (.box t x) c=some z):
  ∃e,c e=some z/\iJ P ι f o a w e:=by
 simp only[effK]at h;obtain⟨v,d,h⟩:=ax h;have hv':=bL i d;refine⟨_,h,.mk (x:=.pointer (some ⟨w.heap.size,0,none⟩)) (ob:=.cells (a.eval x).cells t) ?_ (LN (VR.mono (sO g) _ _ hv') t) ?_⟩
 ·simp only[execOp,b,Instr.box,ay,aE,newVar,newRow,zj,aH,An]
 ·simp only[VR];exact⟨_,ek _ _ _,rfl⟩
def Nh(a:List Field)(h:(a.all λfd=>Nat.blt 0 (P.cellsOf fd.type))=true)(w:World):
  (a.mapM λ(f:Field)=>do pure (f.offset,<-sizeOf f.type)).run P w=.ok (GA P a) w:=by
 induction a with
 | nil=>rfl
 | cons fd a ih=>
  simp only[oL,aD]at h;obtain⟨i,hi⟩:=cG h.1;have ih:=ih h.2;simp only[AN,ay,ig hi,aE,aH,ih];rfl
def PI{t:TypeId}{g:Array (Nat×Operand)}(G:o.op=.build t g)(K:TR ι s.T a.tmps)(h:effK P (opd s.T) s.H f (.build t g) c=some z):
  ∃e,c e=some z/\iJ P ι f o a w e:=by
 simp only[effK]at h;obtain⟨M,v,h⟩:=ax h;obtain⟨B,hp,h⟩:=ax h;obtain⟨x,i,O,N,I,E⟩:=yO ι v;obtain⟨F,D⟩:=xe K _ _ hp;have q:=pH I;have p:(g.map λ(i,x)=>(i,a.eval x)).toList=g.toList.map λ(i,x)=>(i,a.eval x):=by simp
 split at h
 ·rename_i j C;split at h
  ·rename_i m;obtain⟨l,u,h⟩:=ax h;obtain⟨r,b,d⟩:=yJ _ _ (g.toList.map λ(i,x)=>(i,a.eval x)) _ _ _ q F (by simp[VRs]) D u;refine⟨_,h,.val (x:=.agg r) ?_ (by simp only[VR];exact⟨r,rfl,d⟩)⟩;have J:(j.mapM λ(f:Field)=>do pure (f.offset,<-sizeOf f.type)).run P w=.ok (GA P j.toList).toArray w:=by
    rw[VG];simp only[Sem.run_map,Nh j.toList m,aE]
   have y:(λ(i:Nat)=>(GA P j.toList).toArray[i]?)=λ(i:Nat)=>(GA P j.toList)[i]?:=by
    funext i;simp
   simp only[execOp,G,Instr.build,ay,E,aE,bu C,J,y,p,b,aH]
  ·cases h
 ·rename_i n e C;split at h
  ·rename_i k;obtain⟨L,A⟩:=cG k;obtain⟨l,u,h⟩:=ax h;obtain⟨r,b,d⟩:=yJ _ _ (g.toList.map λ(i,x)=>(i,a.eval x)) _ _ _ q F (by simp[VRs]) D u;refine⟨_,h,.val (x:=.agg r) ?_ (sj d)⟩;simp only[execOp,G,Instr.build,ay,E,aE,bu C,ig A,p,b,aH]
  ·cases h
 ·cases h
def AI(l:List V):∀n,(E3 l n).length=n*l.length
 | 0=>by simp[E3]
 | n+1=>by simp[E3,AI l n,iV,qP]
def UP{ι:Inj}{l:List V}{a:Array Value}(h:VRs ι l a.toList)(k:0<l.length):∀n,VRs ι (E3 l n) ((Array.range (n*l.length)).map (a[·%a.size]!)).toList:=by
 have b:a.size=l.length:=by simpa using h.length
 intro n;refine VRs.of_get (by simp[AI]) λj v x e hx=>?_;have key:∀n j v,(E3 l n)[j]?=some v->l[j%l.length]?=some v:=by
  intro n
  induction n with
  | zero=>intro j v h;simp[E3]at h
  | succ n ih=>
   intro j v h;simp only[E3]at h;by_cases c:j<l.length
   ·rw[qp c]at h;rw[mB c];exact h
   ·rw[s9 (by omega)]at h;have:=ih _ _ h;rwa[<-Nat.mod_eq_sub_mod (by omega)]at this
 have m:=key n j v e;obtain⟨y,hy,d⟩:=h.get m;have f:j<n*l.length:=by
  rcases aN j (n*l.length)with g | g
  ·exact g
  ·rw[gS (by rw[AI];omega)]at e;cases e
 have i:j%l.length<a.size:=by rw[b];exact ua _ k
 have:x=a[j%a.size]! := by
  simp[f]at hx;exact hx.symm
 rw[this,b];have hy':a[j%l.length]?=some y:=by simpa using hy
 have:a[j%l.length]! = y:=by
  rw[getElem!_def,hy']
 rw[this];exact d
def BG{t e:TypeId}{n:Nat}{zc:Value}{i:TypeInfo}{g:Array (Nat×Value)}{h:Array Value}{w:World}(k:P.underlying t=some (.slice e))(hi:P.info? e=some i)
  (f:n*P.cellsOf e<=1000) (j:∀w,(zeroValue e).run P w=.ok zc w)
  (a:Instr.fill (λi=>some (i*P.cellsOf e,P.cellsOf e)) ((Array.range (n*P.cellsOf e)).map (zc.cells[·%zc.cells.size]!)) g.toList=some h):
  (Instr.buildSlice t n g).run P w=.ok (.slice (some ⟨w.heap.size,0,none⟩) n n) (w.alloc (.cells h e)):=by
 have d:¬(n*P.cellsOf e>2 ^ 24):=Nat.not_lt.2 (tY f (by decide));unfold Instr.buildSlice;simp only[ay,aE,bu k,ig hi];rw[ab d];by_cases c:n*P.cellsOf e=0
 ·rw[ae c];have b:Array.range 0=#[]:=rfl;rw[c]at a ⊢;rw[b,JI]at a;simp only[ay,aH,aE,b,JI,a,newRow,zj,An]
 ·rw[ab c];simp only[ay,j,aH,aE,a,newRow,zj,An]
def BF{t:TypeId}{n:Nat}{y:Array (Nat×Operand)}(L:o.op=.buildSlice t n y)(W:TR ι s.T a.tmps)(N:ι f=none)(h:effK P (opd s.T) s.H f (.buildSlice t n y) c=some z):
  ∃e,c e=some z/\iJ P ι f o a w e:=by
 simp only[effK]at h;split at h
 ·rename_i e X;split at h
  ·rename_i J;simp only[aD]at J;obtain⟨D,k⟩:=J;obtain⟨Y,E⟩:=cG k;obtain⟨Z,C,h⟩:=ax h;obtain⟨I,hp,h⟩:=ax h;split at h
   ·rename_i b;have b:=bO b;obtain⟨l,R,h⟩:=ax h;obtain⟨x,i,h1,h2,S,Q⟩:=yO ι C;obtain⟨U,O⟩:=xe W _ _ hp;have G:=pH S;have F:(y.map λ(i,x)=>(i,a.eval x)).toList=y.toList.map λ(i,x)=>(i,a.eval x):=by simp
    have hpos':0<P.cellsOf e:=aR k;have v:=UP G (by omega) n;rw[b]at v;obtain⟨A,g,j⟩:=yJ _ _ (y.toList.map λ(i,x)=>(i,a.eval x)) _ _ _ v U (by simp[VRs]) O R;rw[<-F]at g;have p:=BG (w:=w) X E (aR D) Q g;split at h
    ·rename_i tr V;split at h
     case h_2=>cases h
     rename_i u;simp only[aD,kx]at u;obtain⟨M,K⟩:=u;obtain⟨m,B,h⟩:=ax h;obtain⟨m1,m2⟩:=fS9 B (by rw[K,M]);have r:A.size=n*tr.length:=by rw[M,<-K];simpa using j.length
     rw[m2]at j;refine⟨_,h,.mkR (d:=w.drawn) (q:=(Rf.of w.heap.size n n)) (x:=.slice (some ⟨w.heap.size,0,none⟩) n n) (ob:=.cells A e) ?_ rfl rfl
      ⟨A,e,(0,0),rfl,m1,bi _,by rw[r];simp,?_,.inr (vI _)⟩ ?_⟩
     ·simp only[execOp,L,ay,p,aE,aH]
     ·rw[<-LS ι m _ j,m1];simp only[cM];exact kr (by rw[PG,r];exact bi _)
     ·simp only[VR];exact .inl ⟨_,ek _ _ _,rfl⟩
    ·refine⟨_,h,.mk (x:=.slice (some ⟨w.heap.size,0,none⟩) n n) (ob:=.cells A e) ?_ ⟨A,e,(0,0),rfl,VRs.mono (sO N) _ _ j,vI _⟩ ?_⟩
     ·simp only[execOp,L,ay,p,aE,aH]
     ·simp only[VR];exact⟨_,n,ek _ _ _,λm B=>by simpa using B,bi _,rfl⟩
   ·cases h
  ·cases h
 ·cases h
def Pi{t:TypeId}{x:Operand}(d:o.op=.range t x)(i:TR ι s.T a.tmps)(h:effK P (opd s.T) s.H f (.range t x) c=some z):
  ∃e,c e=some z/\iJ P ι f o a w e:=by
 simp only[effK]at h;split at h
 ·rename_i g;split at h
  ·rename_i l hx;have b:=bL i hx;simp only[VR]at b;refine⟨_,h,.mk (x:=.pointer (some ⟨w.heap.size,0,none⟩)) (ob:=.stringIter ⟨l.toArray⟩ 0) ?_ rfl (by simp only[VR];exact⟨_,ek _ _ _,rfl⟩)⟩;simp only[execOp,d,Instr.range,ay,aE,bu g,b,aH,zj,An]
  ·cases h
 ·cases h
end ops
end Go.Abs
