
import Derived.Test.YtibehcmomiplnaaGreatDoorAbsF
set_option linter.unusedSimpArgs false
set_option linter.unusedVariables false
set_option linter.defProp false
namespace Go.Abs
variable {P:Program}
def qP(o j:Nat):padd o j=o+j:=by
 unfold padd;cases h:Nat.beq o 0 with
 | true=>have:o=0:=bB h;simp[this]
 | false=>rfl
def yq(j s:Nat):pmul j s=j*s:=by
 unfold pmul;cases h:Nat.beq s 1 with
 | true=>have:s=1:=bB h;simp[this]
 | false=>rfl
def o7{n j:Nat}{i:Int}(h:ix n i=some j):0<=i/\i<n/\j=i.toNat:=by
 unfold ix at h;split at h
 ·rename_i hc;simp only[ar]at h;exact⟨hc.1,hc.2,h.symm⟩
 ·cases h
def mn{n j:Nat}{i:Int}(h:bx n i=some j):0<=i/\i<=n/\j=i.toNat:=by
 unfold bx at h;split at h
 ·rename_i hc;simp only[ar]at h;exact⟨hc.1,hc.2,h.symm⟩
 ·cases h
def pP{ι:Inj}{T:List (Nat×Option V)}{a:Act}(c:TR ι T a.tmps){x:Option Operand}{l:Option Int}(h:rl (opd T) x=some l):
  (l=none/\x.map a.eval=none)\/∃k n,l=some n/\x.map a.eval=some (.int k n):=by
 unfold rl at h;split at h
 ·simp only[ar]at h;subst h;exact .inl ⟨rfl,rfl⟩
 ·split at h
  ·rename_i k n b;simp only[ar]at h;subst h;have:=bv c b;simp only[VR]at this;exact .inr ⟨k,n,rfl,by simp[this]⟩
  ·cases h
def xp{α:Type}{ι:Inj}{T:List (Nat×Option V)}{a:Act}(r:TR ι T a.tmps){lo hi:Option Operand}{l h:Option Int}(u:rl (opd T) lo=some l)
  (t:rl (opd T) hi=some h) {n len:Nat} {isSlice:Bool} {c:Nat->Nat->Option α} {z:α} (e:(hiK n len h λh=>loK h l λl=>c h l)=some z):
  ∃H L,c H L=some z/\(h=none\/H<=n)/\(h=none->H=len)/\(h≠none->H<=n)/\L<=H/\(l=none->L=0)/\
   ∀w,(Instr.sliceBounds isSlice len n (lo.map a.eval) (hi.map a.eval) none).run P w=.ok (L,H,n) w:=by
 have i:∀{H:Nat},loK H l (c H)=some z->∃L,c H L=some z/\L<=H/\(l=none->L=0)/\
   ∀w,(match lo.map a.eval with | some v=>Instr.sliceBound v H .sliceB | none=>pure 0).run P w=.ok L w:=by
  intro H e;rcases pP r u with⟨rfl,g⟩ | ⟨k,m,rfl,g⟩
  ·exact⟨0,e,iK _,λ_=>rfl,λw=>by rw[g];rfl⟩
  ·simp only[loK]at e;obtain⟨L,o,j⟩:=ax e;obtain⟨g0,p,rfl⟩:=mn o;exact⟨_,j,by omega,by simp,λw=>by rw[g];exact run_sliceBound w k m H .sliceB g0 p⟩
 rcases pP r t with⟨rfl,g⟩ | ⟨k,m,rfl,g⟩
 ·simp only[hiK]at e;obtain⟨L,o,j,q,d⟩:=i e;refine⟨len,L,o,.inl rfl,λ_=>rfl,by simp,j,q,λw=>?_⟩;have d:=d w;rw[g];simp only[Instr.sliceBounds,ay,aE,aB,xk,bU,aG];cases b:lo.map a.eval with
  | none=>rw[b]at d;simp only[aE,xb,ud]at d;simp[d]
  | some v=>rw[b]at d;simp only[]at d;simp[d]
 ·simp only[hiK]at e;obtain⟨H,o,j⟩:=ax e;obtain⟨g0,p,rfl⟩:=mn o;obtain⟨L,q,d,x,f⟩:=i j;refine⟨_,L,q,.inr (by omega),by simp,λ_=>by omega,d,x,λw=>?_⟩;have f:=f w;rw[g];have s:=run_sliceBound (P:=P) w k m n (if isSlice=true then .sliceAcap else .sliceAlen) g0 p;simp only[Instr.sliceBounds,ay,aE,aB,xk,bU,aG,s];cases b:lo.map a.eval with
  | none=>rw[b]at f;simp only[aE,xb,ud]at f;simp[f]
  | some v=>rw[b]at f;simp only[]at f;simp[f]
section ops
variable {α:Type} {ι:Inj} {s:St} {a:Act} {w:World} {f:Nat} {o:Oper} {c:Eff->Option α} {z:α}
def Qx{t:TypeId}{x:Operand}(C:o.op=.load t x)(D:TR ι s.T a.tmps)(B:WR ι s.H s.nb w)(h:effK P (opd s.T) s.H f (.load t x) c=some z):
  ∃e,c e=some z/\gY P ι f o a w e:=by
 simp only[effK]at h;split at h
 ·rename_i b off hx;split at h
  ·rename_i blk y;obtain⟨v,X,r,n,I,A,p⟩:=IJ B y h;have i:=bv D hx;simp only[VR]at i;obtain⟨U,d,m⟩:=i;rw[I]at d;cases d;exact⟨_,n,.val (by simp only[execOp,C,m,ay,A,aB,aE]) p⟩
  ·cases h
 ·rename_i W b j off hx;split at h
  case h_2=>cases h
  rename_i tr l y;split at h
  case h_2=>cases h
  rename_i u;have u:=bB u;subst u;obtain⟨F,G,h⟩:=ax h;have i:=bv D hx;simp only[VR]at i;obtain⟨q,d,m⟩:=i;rcases jQ B y with⟨S,N,e,fr,g,L,O,V,M,K,R⟩ | ⟨g,_⟩
  ·rw[d]at g;cases g;obtain⟨J,Q⟩:=SA K G;have E:l.length*tr.length<=q.k*tr.length:=pa _ (by omega);rw[<-gR]at m;obtain⟨v,X,n,A,p⟩:=PW (o:=off) L (by rw[lu,J];exact(og ι tr F _).2 rfl) (by rw[lu];omega) h;exact⟨_,n,.val (by simp only[execOp,C,m,ay,A,aB,aE]) p⟩
  ·rw[d]at g;cases g
 ·cases h
def Pi{t:TypeId}{x y:Operand}(O:o.op=.store t x y)(C:TR ι s.T a.tmps)(N:WR ι s.H s.nb w)(h:effK P (opd s.T) s.H f (.store t x y) c=some z):
  ∃e,c e=some z/\gY P ι f o a w e:=by
 simp only[effK]at h;split at h
 ·rename_i b off hx;obtain⟨v,hy,h⟩:=ax h;split at h
  ·rename_i blk F;obtain⟨S,E,r,d,I,M,D⟩:=K9 N F (bv C hy) h;have u:=bv C hx;simp only[VR]at u;obtain⟨r',g,B⟩:=u;rw[I]at g;cases g;refine⟨_,d,?_⟩;unfold gY;exact⟨r,I,λ_=>⟨E,.skip,by simp only[execOp,O,B,ay,M,aB,aE],D,.skip rfl⟩⟩
  ·cases h
 ·rename_i zz b j off hx;obtain⟨v,hy,R⟩:=ax h;clear h;have h:=R;clear R;split at h
  case h_2=>cases h
  rename_i tr l F;split at h
  case h_2=>cases h
  rename_i n;have n:=bB n;subst n;obtain⟨Y,G,h⟩:=ax h;have u:=bv C hx;simp only[VR]at u;obtain⟨q,g,B⟩:=u;rcases jQ N F with⟨q',Q,e,fr,p,g2,g3,g4,V,U,g7⟩ | ⟨p,_⟩
  ·rw[g]at p;cases p;obtain⟨r1,r2⟩:=SA U G;have W:l.length*tr.length<=q.k*tr.length:=pa _ (by omega);rw[<-gR]at B;obtain⟨l',X,d,I,M,D⟩:=K3 (o:=off) (fr:=fr) g2 (by rw[lu,r1];exact(og ι tr Y _).2 rfl) (by rw[lu];omega) (bv C hy) h;simp only at d;obtain⟨A,J,d⟩:=ax d;have Z:X=vals tr A:=(og ι tr A X).1 (by rw[<-wJ J];exact M);subst Z;have L:j<l.length:=by
    rcases aN j l.length with K | K
    ·exact K
    ·rw[gh K]at G;cases G
   have m:(splA Q (q.o+j*tr.length) (vals tr A)).size=Q.size:=xO (by rw[ia];omega);refine⟨_,d,?_⟩;unfold gY;refine⟨q,g,λn=>?_⟩;have i:=g7.resolve_left (by rw[n];simp);refine⟨_,.skip,by simp only[execOp,O,B,ay,D i,aB,aE];rfl,⟨_,e,fr,rfl,by rw[Gg];exact g3,g4,by rw[m];exact V,?_,.inr (by rw[m];exact i)⟩,.skip rfl⟩;exact QC (by omega) U A L
  ·rw[g]at p;cases p
 ·cases h
def OF{t:TypeId}(g:o.op=.alloc t)(h:effK P (opd s.T) s.H f (.alloc t) c=some z):∃e,c e=some z/\gY P ι f o a w e:=by
 simp only[effK]at h;obtain⟨v,b,h⟩:=ax h;obtain⟨x,i,k,l,d,j⟩:=wE (upd ι f (some (Rf.of w.heap.size (0) (0)))) b;refine⟨_,h,.mk (x:=.pointer (some ⟨w.heap.size,0,none⟩)) (ob:=.cells x.cells t) ?_ (Jf (Vs d) t) ?_⟩
 ·simp only[execOp,g,Instr.alloc,ay,j,aB,newVar,newRow,xC,aE,xL]
 ·simp only[VR];exact⟨_,dO _ _ _,rfl⟩
def Vp{t:TypeId}{x:Operand}(d:o.op=.box t x)(g:TR ι s.T a.tmps)(i:ι f=none)(h:effK P (opd s.T) s.H f (.box t x) c=some z):
  ∃e,c e=some z/\gY P ι f o a w e:=by
 simp only[effK]at h;obtain⟨v,b,h⟩:=ax h;have hv':=bv g b;refine⟨_,h,.mk (x:=.pointer (some ⟨w.heap.size,0,none⟩)) (ob:=.cells (a.eval x).cells t) ?_ (Jf (VR.mono (qt i) _ _ hv') t) ?_⟩
 ·simp only[execOp,d,Instr.box,ay,aB,newVar,newRow,xC,aE,xL]
 ·simp only[VR];exact⟨_,dO _ _ _,rfl⟩
def JS(a:List Field)(h:(a.all λfd=>Nat.blt 0 (P.cellsOf fd.type))=true)(w:World):
  (a.mapM λ(f:Field)=>do pure (f.offset,<-sizeOf f.type)).run P w=.ok (DN P a) w:=by
 induction a with
 | nil=>rfl
 | cons fd a ih=>
  simp only[nH,aA]at h;obtain⟨i,hi⟩:=cf h.1;have ih:=ih h.2;simp only[zk,ay,gy hi,aB,aE,ih];rfl
def Ll{t:TypeId}{g:Array (Nat×Operand)}(E:o.op=.build t g)(I:TR ι s.T a.tmps)(h:effK P (opd s.T) s.H f (.build t g) c=some z):
  ∃e,c e=some z/\gY P ι f o a w e:=by
 simp only[effK]at h;obtain⟨M,u,h⟩:=ax h;obtain⟨v,hp,h⟩:=ax h;obtain⟨x,i,L,O,K,F⟩:=wE ι u;obtain⟨D,G⟩:=vf I _ _ hp;have m:=n7 K;have p:(g.map λ(i,x)=>(i,a.eval x)).toList=g.toList.map λ(i,x)=>(i,a.eval x):=by simp
 split at h
 ·rename_i j y;split at h
  ·rename_i q;obtain⟨l,B,h⟩:=ax h;obtain⟨r,b,d⟩:=wK _ _ (g.toList.map λ(i,x)=>(i,a.eval x)) _ _ _ m D (by simp[VRs]) G B;refine⟨_,h,.val (x:=.agg r) ?_ (by simp only[VR];exact⟨r,rfl,d⟩)⟩;have J:(j.mapM λ(f:Field)=>do pure (f.offset,<-sizeOf f.type)).run P w=.ok (DN P j.toList).toArray w:=by
    rw[Tt];simp only[Sem.run_map,JS j.toList q,aB]
   have C:(λ(i:Nat)=>(DN P j.toList).toArray[i]?)=λ(i:Nat)=>(DN P j.toList)[i]?:=by
    funext i;simp
   simp only[execOp,E,Instr.build,ay,F,aB,ba y,J,C,p,b,aE]
  ·cases h
 ·rename_i n e y;split at h
  ·rename_i k;obtain⟨N,A⟩:=cf k;obtain⟨l,B,h⟩:=ax h;obtain⟨r,b,d⟩:=wK _ _ (g.toList.map λ(i,x)=>(i,a.eval x)) _ _ _ m D (by simp[VRs]) G B;refine⟨_,h,.val (x:=.agg r) ?_ (qz d)⟩;simp only[execOp,E,Instr.build,ay,F,aB,ba y,gy A,p,b,aE]
  ·cases h
 ·cases h
def yG(l:List V):∀n,(Be l n).length=n*l.length
 | 0=>by simp[Be]
 | n+1=>by simp[Be,yG l n,ij,o8]
def Q7{ι:Inj}{l:List V}{a:Array Value}(h:VRs ι l a.toList)(k:0<l.length):∀n,VRs ι (Be l n) ((Array.range (n*l.length)).map (a[·%a.size]!)).toList:=by
 have c:a.size=l.length:=by simpa using h.length
 intro n;refine VRs.of_get (by simp[yG]) λj v x f hx=>?_;have key:∀n j v,(Be l n)[j]?=some v->l[j%l.length]?=some v:=by
  intro n
  induction n with
  | zero=>intro j v h;simp[Be]at h
  | succ n ih=>
   intro j v h;simp only[Be]at h;by_cases b:j<l.length
   ·rw[om b]at h;rw[rO b];exact h
   ·rw[rf (by omega)]at h;have:=ih _ _ h;rwa[<-Nat.mod_eq_sub_mod (by omega)]at this
 have m:=key n j v f;obtain⟨y,hy,d⟩:=h.get m;have e:j<n*l.length:=by
  rcases aN j (n*l.length)with g | g
  ·exact g
  ·rw[gh (by rw[yG];omega)]at f;cases f
 have i:j%l.length<a.size:=by rw[c];exact rk _ k
 have:x=a[j%a.size]! := by
  simp[e]at hx;exact hx.symm
 rw[this,c];have hy':a[j%l.length]?=some y:=by simpa using hy
 have:a[j%l.length]! = y:=by
  rw[getElem!_def,hy']
 rw[this];exact d
def zH{t e:TypeId}{n:Nat}{zc:Value}{i:TypeInfo}{g:Array (Nat×Value)}{h:Array Value}{w:World}(k:P.underlying t=some (.slice e))(hi:P.info? e=some i)
  (c:n*P.cellsOf e<=1000) (j:∀w,(zeroValue e).run P w=.ok zc w)
  (a:Instr.fill (λi=>some (i*P.cellsOf e,P.cellsOf e)) ((Array.range (n*P.cellsOf e)).map (zc.cells[·%zc.cells.size]!)) g.toList=some h):
  (Instr.buildSlice t n g).run P w=.ok (.slice (some ⟨w.heap.size,0,none⟩) n n) (w.alloc (.cells h e)):=by
 have d:¬(n*P.cellsOf e>2 ^ 24):=Nat.not_lt.2 (rK c (by decide));unfold Instr.buildSlice;simp only[ay,aB,ba k,gy hi];rw[ae d];by_cases f:n*P.cellsOf e=0
 ·rw[af f];have b:Array.range 0=#[]:=rfl;rw[f]at a ⊢;rw[b,HK]at a;simp only[ay,aE,aB,b,HK,a,newRow,xC,xL]
 ·rw[ae f];simp only[ay,j,aE,aB,a,newRow,xC,xL]
def zJ{t:TypeId}{n:Nat}{u:Array (Nat×Operand)}(J:o.op=.buildSlice t n u)(Q:TR ι s.T a.tmps)(U:ι f=none)(h:effK P (opd s.T) s.H f (.buildSlice t n u) c=some z):
  ∃e,c e=some z/\gY P ι f o a w e:=by
 simp only[effK]at h;split at h
 ·rename_i e R;split at h
  ·rename_i M;simp only[aA]at M;obtain⟨B,k⟩:=M;obtain⟨i',F⟩:=cf k;obtain⟨Z,C,h⟩:=ax h;obtain⟨D,hp,h⟩:=ax h;split at h
   ·rename_i b;have b:=bB b;obtain⟨l,V,h⟩:=ax h;obtain⟨x,i,Y,h2,W,O⟩:=wE ι C;obtain⟨N,X⟩:=vf Q _ _ hp;have G:=n7 W;have I:(u.map λ(i,x)=>(i,a.eval x)).toList=u.toList.map λ(i,x)=>(i,a.eval x):=by simp
    have hpos':0<P.cellsOf e:=aM k;have y:=Q7 G (by omega) n;rw[b]at y;obtain⟨v,g,j⟩:=wK _ _ (u.toList.map λ(i,x)=>(i,a.eval x)) _ _ _ y N (by simp[VRs]) X V;rw[<-I]at g;have p:=zH (w:=w) R F (aM B) O g;split at h
    ·rename_i tr S;split at h
     case h_2=>cases h
     rename_i A;simp only[aA,jB]at A;obtain⟨K,L⟩:=A;obtain⟨m,E,h⟩:=ax h;obtain⟨m1,m2⟩:=DJ E (by rw[L,K]);have r:v.size=n*tr.length:=by rw[K,<-L];simpa using j.length
     rw[m2]at j;refine⟨_,h,.mkR (d:=w.drawn) (q:=(Rf.of w.heap.size (n) (n))) (x:=.slice (some ⟨w.heap.size,0,none⟩) n n) (ob:=.cells v e) ?_ rfl rfl
      ⟨v,e,(0,0),rfl,m1,bg _,by rw[r];simp,?_,.inr (tV _)⟩ ?_⟩
     ·simp only[execOp,J,ay,p,aB,aE]
     ·rw[<-HZ ι m _ j,m1];simp only[dk];exact jK (by rw[OZ,r];exact bg _)
     ·simp only[VR];exact .inl ⟨_,dO _ _ _,rfl⟩
    ·refine⟨_,h,.mk (x:=.slice (some ⟨w.heap.size,0,none⟩) n n) (ob:=.cells v e) ?_ ⟨v,e,(0,0),rfl,VRs.mono (qt U) _ _ j,tV _⟩ ?_⟩
     ·simp only[execOp,J,ay,p,aB,aE]
     ·simp only[VR];exact⟨_,n,dO _ _ _,λm E=>by simpa using E,bg _,rfl⟩
   ·cases h
  ·cases h
 ·cases h
def LA{t:TypeId}{x:Operand}(g:o.op=.range t x)(i:TR ι s.T a.tmps)(h:effK P (opd s.T) s.H f (.range t x) c=some z):
  ∃e,c e=some z/\gY P ι f o a w e:=by
 simp only[effK]at h;split at h
 ·rename_i d;split at h
  ·rename_i l hx;have b:=bv i hx;simp only[VR]at b;refine⟨_,h,.mk (x:=.pointer (some ⟨w.heap.size,0,none⟩)) (ob:=.stringIter ⟨l.toArray⟩ 0) ?_ rfl (by simp only[VR];exact⟨_,dO _ _ _,rfl⟩)⟩;simp only[execOp,g,Instr.range,ay,aB,ba d,b,aE,xC,xL]
  ·cases h
 ·cases h
end ops
end Go.Abs
