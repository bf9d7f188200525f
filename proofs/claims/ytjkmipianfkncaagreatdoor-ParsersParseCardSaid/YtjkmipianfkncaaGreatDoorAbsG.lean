
import Derived.Test.YtjkmipianfkncaaGreatDoorAbsF
set_option linter.unusedSimpArgs false
set_option linter.unusedVariables false
set_option linter.defProp false
namespace Go.Abs
variable {P:Program}
def ow(o j:Nat):padd o j=o+j:=by
 unfold padd;cases h:Nat.beq o 0 with
 | true=>have:o=0:=bD h;simp[this]
 | false=>rfl
def xi(j s:Nat):pmul j s=j*s:=by
 unfold pmul;cases h:Nat.beq s 1 with
 | true=>have:s=1:=bD h;simp[this]
 | false=>rfl
def nH{n j:Nat}{i:Int}(h:ix n i=some j):0<=i/\i<n/\j=i.toNat:=by
 unfold ix at h;split at h
 ·rename_i hc;simp only[ar]at h;exact⟨hc.1,hc.2,h.symm⟩
 ·cases h
def kY{n j:Nat}{i:Int}(h:bx n i=some j):0<=i/\i<=n/\j=i.toNat:=by
 unfold bx at h;split at h
 ·rename_i hc;simp only[ar]at h;exact⟨hc.1,hc.2,h.symm⟩
 ·cases h
def nN{ι:Inj}{T:List (Nat×Option V)}{a:Act}(c:TR ι T a.tmps){x:Option Operand}{l:Option Int}(h:pO (opd T) x=some l):
  (l=none/\x.map a.eval=none)\/∃k n,l=some n/\x.map a.eval=some (.int k n):=by
 unfold pO at h;split at h
 ·simp only[ar]at h;subst h;exact .inl ⟨rfl,rfl⟩
 ·split at h
  ·rename_i k n b;simp only[ar]at h;subst h;have:=bp c b;simp only[VR]at this;exact .inr ⟨k,n,rfl,by simp[this]⟩
  ·cases h
def vp{α:Type}{ι:Inj}{T:List (Nat×Option V)}{a:Act}(r:TR ι T a.tmps){lo hi:Option Operand}{l h:Option Int}(s:pO (opd T) lo=some l)
  (u:pO (opd T) hi=some h) {n len:Nat} {isSlice:Bool} {c:Nat->Nat->Option α} {z:α} (e:(hiK n len h λh=>loK h l λl=>c h l)=some z):
  ∃H L,c H L=some z/\(h=none\/H<=n)/\(h=none->H=len)/\(h≠none->H<=n)/\L<=H/\(l=none->L=0)/\
   ∀w,(Instr.sliceBounds isSlice len n (lo.map a.eval) (hi.map a.eval) none).run P w=.ok (L,H,n) w:=by
 have j:∀{H:Nat},loK H l (c H)=some z->∃L,c H L=some z/\L<=H/\(l=none->L=0)/\
   ∀w,(match lo.map a.eval with | some v=>Instr.sliceBound v H .sliceB | none=>pure 0).run P w=.ok L w:=by
  intro H e;rcases nN r s with⟨rfl,g⟩ | ⟨k,m,rfl,g⟩
  ·exact⟨0,e,dh _,λ_=>rfl,λw=>by rw[g];rfl⟩
  ·simp only[loK]at e;obtain⟨L,i,o⟩:=av e;obtain⟨g0,q,rfl⟩:=kY i;exact⟨_,o,by omega,by simp,λw=>by rw[g];exact run_sliceBound w k m H .sliceB g0 q⟩
 rcases nN r u with⟨rfl,g⟩ | ⟨k,m,rfl,g⟩
 ·simp only[hiK]at e;obtain⟨L,i,o,p,d⟩:=j e;refine⟨len,L,i,.inl rfl,λ_=>rfl,by simp,o,p,λw=>?_⟩;have d:=d w;rw[g];simp only[Instr.sliceBounds,aw,aA,ay,vI,bs,aC];cases b:lo.map a.eval with
  | none=>rw[b]at d;simp only[aA,xf,vH]at d;simp[d]
  | some v=>rw[b]at d;simp only[]at d;simp[d]
 ·simp only[hiK]at e;obtain⟨H,i,o⟩:=av e;obtain⟨g0,q,rfl⟩:=kY i;obtain⟨L,p,d,t,f⟩:=j o;refine⟨_,L,p,.inr (by omega),by simp,λ_=>by omega,d,t,λw=>?_⟩;have f:=f w;rw[g];have x:=run_sliceBound (P:=P) w k m n (if isSlice=true then .sliceAcap else .sliceAlen) g0 q;simp only[Instr.sliceBounds,aw,aA,ay,vI,bs,aC,x];cases b:lo.map a.eval with
  | none=>rw[b]at f;simp only[aA,xf,vH]at f;simp[f]
  | some v=>rw[b]at f;simp only[]at f;simp[f]
section ops
variable {α:Type} {ι:Inj} {s:St} {a:Act} {w:World} {f:Nat} {o:Oper} {c:Eff->Option α} {z:α}
def N1{t:TypeId}{x:Operand}(C:o.op=.load t x)(D:TR ι s.T a.tmps)(B:WR ι s.H s.nb w)(h:effK P (opd s.T) s.H f (.load t x) c=some z):
  ∃e,c e=some z/\gj P ι f o a w e:=by
 simp only[effK]at h;split at h
 ·rename_i b off hx;split at h
  ·rename_i blk y;obtain⟨v,X,r,n,J,p,A⟩:=E5 B y h;have i:=bp D hx;simp only[VR]at i;obtain⟨N,d,m⟩:=i;rw[J]at d;cases d;exact⟨_,n,.val (by simp only[execOp,C,m,aw,p,ay,aA]) A⟩
  ·cases h
 ·rename_i Q b j off hx;split at h
  case h_2=>cases h
  rename_i tr l y;split at h
  case h_2=>cases h
  rename_i u;have u:=bD u;subst u;obtain⟨G,F,h⟩:=av h;have i:=bp D hx;simp only[VR]at i;obtain⟨q,d,m⟩:=i;rcases jc B y with⟨S,O,e,fr,g,I,V,U,M,L,W⟩ | ⟨g,_⟩
  ·rw[d]at g;cases g;obtain⟨E,R⟩:=Oz L F;have K:l.length*tr.length<=q.k*tr.length:=nE _ (by omega);rw[<-gN]at m;obtain⟨v,X,n,p,A⟩:=N5 (o:=off) I (by rw[kw,E];exact(mU ι tr G _).2 rfl) (by rw[kw];omega) h;exact⟨_,n,.val (by simp only[execOp,C,m,aw,p,ay,aA]) A⟩
  ·rw[d]at g;cases g
 ·cases h
def KC{t:TypeId}{x y:Operand}(S:o.op=.store t x y)(C:TR ι s.T a.tmps)(Q:WR ι s.H s.nb w)(h:effK P (opd s.T) s.H f (.store t x y) c=some z):
  ∃e,c e=some z/\gj P ι f o a w e:=by
 simp only[effK]at h;split at h
 ·rename_i b off hx;obtain⟨v,hy,h⟩:=av h;split at h
  ·rename_i blk J;obtain⟨N,E,r,g,L,I,M⟩:=JR Q J (bp C hy) h;have u:=bp C hx;simp only[VR]at u;obtain⟨r',d,B⟩:=u;rw[L]at d;cases d;refine⟨_,g,?_⟩;unfold gj;exact⟨r,L,λ_=>⟨E,.skip,by simp only[execOp,S,B,aw,I,ay,aA],M,.skip rfl⟩⟩
  ·cases h
 ·rename_i zz b j off hx;obtain⟨v,hy,R⟩:=av h;clear h;have h:=R;clear R;split at h
  case h_2=>cases h
  rename_i tr l J;split at h
  case h_2=>cases h
  rename_i m;have m:=bD m;subst m;obtain⟨Y,F,h⟩:=av h;have u:=bp C hx;simp only[VR]at u;obtain⟨q,d,B⟩:=u;rcases jc Q J with⟨q',O,e,fr,p,Z,g3,g4,V,U,g7⟩ | ⟨p,_⟩
  ·rw[d]at p;cases p;obtain⟨W,r2⟩:=Oz U F;have hle:l.length*tr.length<=q.k*tr.length:=nE _ (by omega);rw[<-gN]at B;obtain⟨l',X,g,L,I,M⟩:=JO (o:=off) (fr:=fr) Z (by rw[kw,W];exact(mU ι tr Y _).2 rfl) (by rw[kw];omega) (bp C hy) h;simp only at g;obtain⟨A,D,g⟩:=av g;have hX:X=vals tr A:=(mU ι tr A X).1 (by rw[<-uO D];exact I);subst hX;have K:j<l.length:=by
    rcases aF j l.length with G | G
    ·exact G
    ·rw[gC G]at F;cases F
   have i:(splA O (q.o+j*tr.length) (vals tr A)).size=O.size:=wO (by rw[jA];omega);refine⟨_,g,?_⟩;unfold gj;refine⟨q,d,λm=>?_⟩;have n:=g7.resolve_left (by rw[m];simp);refine⟨_,.skip,by simp only[execOp,S,B,aw,M n,ay,aA];rfl,⟨_,e,fr,rfl,by rw[List.length_set];exact g3,g4,by rw[i];exact V,?_,.inr (by rw[i];exact n)⟩,.skip rfl⟩;exact LY (by omega) U A K
  ·rw[d]at p;cases p
 ·cases h
def KX{t:TypeId}(b:o.op=.alloc t)(h:effK P (opd s.T) s.H f (.alloc t) c=some z):∃e,c e=some z/\gj P ι f o a w e:=by
 simp only[effK]at h;obtain⟨v,j,h⟩:=av h;obtain⟨x,i,l,k,g,d⟩:=uW (upd ι f (some (Rf.of w.heap.size (0) (0)))) j;refine⟨_,h,.mk (x:=.pointer (some ⟨w.heap.size,0,none⟩)) (ob:=.cells x.cells t) ?_ (Gx (P9 g) t) ?_⟩
 ·simp only[execOp,b,Instr.alloc,aw,d,ay,newVar,newRow,vt,aA,wG]
 ·simp only[VR];exact⟨_,db _ _ _,rfl⟩
def PK{t:TypeId}{x:Operand}(i:o.op=.box t x)(g:TR ι s.T a.tmps)(d:ι f=none)(h:effK P (opd s.T) s.H f (.box t x) c=some z):
  ∃e,c e=some z/\gj P ι f o a w e:=by
 simp only[effK]at h;obtain⟨v,b,h⟩:=av h;have hv':=bp g b;refine⟨_,h,.mk (x:=.pointer (some ⟨w.heap.size,0,none⟩)) (ob:=.cells (a.eval x).cells t) ?_ (Gx (VR.mono (oL d) _ _ hv') t) ?_⟩
 ·simp only[execOp,i,Instr.box,aw,ay,newVar,newRow,vt,aA,wG]
 ·simp only[VR];exact⟨_,db _ _ _,rfl⟩
def Hu(a:List Field)(h:(a.all λfd=>Nat.blt 0 (P.cellsOf fd.type))=true)(w:World):
  (a.mapM λ(f:Field)=>do pure (f.offset,<-sizeOf f.type)).run P w=.ok (CE P a) w:=by
 induction a with
 | nil=>rfl
 | cons fd a ih=>
  simp only[md,aB]at h;obtain⟨i,hi⟩:=bQ h.1;have ih:=ih h.2;simp only[DI,aw,fN hi,ay,aA,ih];rfl
def JS{t:TypeId}{g:Array (Nat×Operand)}(E:o.op=.build t g)(J:TR ι s.T a.tmps)(h:effK P (opd s.T) s.H f (.build t g) c=some z):
  ∃e,c e=some z/\gj P ι f o a w e:=by
 simp only[effK]at h;obtain⟨K,u,h⟩:=av h;obtain⟨B,hp,h⟩:=av h;obtain⟨x,i,L,N,G,F⟩:=uW ι u;obtain⟨C,D⟩:=tR J _ _ hp;have m:=mI G;have q:(g.map λ(i,x)=>(i,a.eval x)).toList=g.toList.map λ(i,x)=>(i,a.eval x):=by simp
 split at h
 ·rename_i j hd;split at h
  ·rename_i k;obtain⟨l,y,h⟩:=av h;obtain⟨r,b,d⟩:=uR _ _ (g.toList.map λ(i,x)=>(i,a.eval x)) _ _ _ m C (by simp[VRs]) D y;refine⟨_,h,.val (x:=.agg r) ?_ (by simp only[VR];exact⟨r,rfl,d⟩)⟩;have I:(j.mapM λ(f:Field)=>do pure (f.offset,<-sizeOf f.type)).run P w=.ok (CE P j.toList).toArray w:=by
    rw[Ou];simp only[Sem.run_map,Hu j.toList k,ay]
   have A:(λ(i:Nat)=>(CE P j.toList).toArray[i]?)=λ(i:Nat)=>(CE P j.toList)[i]?:=by
    funext i;simp
   simp only[execOp,E,Instr.build,aw,F,ay,aT hd,I,A,q,b,aA]
  ·cases h
 ·rename_i n e hd;split at h
  ·rename_i p;obtain⟨M,v⟩:=bQ p;obtain⟨l,y,h⟩:=av h;obtain⟨r,b,d⟩:=uR _ _ (g.toList.map λ(i,x)=>(i,a.eval x)) _ _ _ m C (by simp[VRs]) D y;refine⟨_,h,.val (x:=.agg r) ?_ (oW d)⟩;simp only[execOp,E,Instr.build,aw,F,ay,aT hd,fN v,q,b,aA]
  ·cases h
 ·cases h
def wx(l:List V):∀n,(Ad l n).length=n*l.length
 | 0=>by simp[Ad]
 | n+1=>by simp[Ad,wx l n,gD,pV]
def Ni{ι:Inj}{l:List V}{a:Array Value}(h:VRs ι l a.toList)(k:0<l.length):∀n,VRs ι (Ad l n) ((Array.range (n*l.length)).map (a[·%a.size]!)).toList:=by
 have c:a.size=l.length:=by simpa using h.length
 intro n;refine VRs.of_get (by simp[wx]) λj v x d hx=>?_;have key:∀n j v,(Ad l n)[j]?=some v->l[j%l.length]?=some v:=by
  intro n
  induction n with
  | zero=>intro j v h;simp[Ad]at h
  | succ n ih=>
   intro j v h;simp only[Ad]at h;by_cases b:j<l.length
   ·rw[mS b]at h;rw[rG b];exact h
   ·rw[pj (by omega)]at h;have:=ih _ _ h;rwa[<-Nat.mod_eq_sub_mod (by omega)]at this
 have m:=key n j v d;obtain⟨y,hy,e⟩:=h.get m;have f:j<n*l.length:=by
  rcases aF j (n*l.length)with g | g
  ·exact g
  ·rw[gC (by rw[wx];omega)]at d;cases d
 have i:j%l.length<a.size:=by rw[c];exact zo _ k
 have:x=a[j%a.size]! := by
  simp[f]at hx;exact hx.symm
 rw[this,c];have hy':a[j%l.length]?=some y:=by simpa using hy
 have:a[j%l.length]! = y:=by
  rw[getElem!_def,hy']
 rw[this];exact e
def xz{t e:TypeId}{n:Nat}{zc:Value}{i:TypeInfo}{g:Array (Nat×Value)}{h:Array Value}{w:World}(hd:P.underlying t=some (.slice e))(hi:P.info? e=some i)
  (f:n*P.cellsOf e<=1000) (j:∀w,(zeroValue e).run P w=.ok zc w)
  (a:Instr.fill (λi=>some (i*P.cellsOf e,P.cellsOf e)) ((Array.range (n*P.cellsOf e)).map (zc.cells[·%zc.cells.size]!)) g.toList=some h):
  (Instr.buildSlice t n g).run P w=.ok (.slice (some ⟨w.heap.size,0,none⟩) n n) (w.alloc (.cells h e)):=by
 have c:¬(n*P.cellsOf e>2 ^ 24):=Nat.not_lt.2 (pt f (by decide));unfold Instr.buildSlice;simp only[aw,ay,aT hd,fN hi];rw[ab c];by_cases d:n*P.cellsOf e=0
 ·rw[ae d];have b:Array.range 0=#[]:=rfl;rw[d]at a ⊢;rw[b,FO]at a;simp only[aw,aA,ay,b,FO,a,newRow,vt,wG]
 ·rw[ab d];simp only[aw,j,aA,ay,a,newRow,vt,wG]
def xH{t:TypeId}{n:Nat}{y:Array (Nat×Operand)}(M:o.op=.buildSlice t n y)(W:TR ι s.T a.tmps)(U:ι f=none)(h:effK P (opd s.T) s.H f (.buildSlice t n y) c=some z):
  ∃e,c e=some z/\gj P ι f o a w e:=by
 simp only[effK]at h;split at h
 ·rename_i e hd;split at h
  ·rename_i L;simp only[aB]at L;obtain⟨I,r⟩:=L;obtain⟨Z,C⟩:=bQ r;obtain⟨X,B,h⟩:=av h;obtain⟨G,hp,h⟩:=av h;split at h
   ·rename_i g;have g:=bD g;obtain⟨l,R,h⟩:=av h;obtain⟨x,i,Y,h2,Q,V⟩:=uW ι B;obtain⟨N,S⟩:=tR W _ _ hp;have E:=mI Q;have F:(y.map λ(i,x)=>(i,a.eval x)).toList=y.toList.map λ(i,x)=>(i,a.eval x):=by simp
    have hpos':0<P.cellsOf e:=aG r;have u:=Ni E (by omega) n;rw[g]at u;obtain⟨A,b,j⟩:=uR _ _ (y.toList.map λ(i,x)=>(i,a.eval x)) _ _ _ u N (by simp[VRs]) S R;rw[<-F]at b;have k:=xz (w:=w) hd C (aG I) V b;split at h
    ·rename_i tr O;split at h
     case h_2=>cases h
     rename_i v;simp only[aB,iU]at v;obtain⟨K,J⟩:=v;obtain⟨m,D,h⟩:=av h;obtain⟨m1,m2⟩:=BF D (by rw[J,K]);have p:A.size=n*tr.length:=by rw[K,<-J];simpa using j.length
     rw[m2]at j;refine⟨_,h,.mkR (d:=w.drawn) (q:=(Rf.of w.heap.size (n) (n))) (x:=.slice (some ⟨w.heap.size,0,none⟩) n n) (ob:=.cells A e) ?_ rfl rfl
      ⟨A,e,(0,0),rfl,m1,aQ _,by rw[p];simp,?_,.inr (rV _)⟩ ?_⟩
     ·simp only[execOp,M,aw,k,ay,aA]
     ·rw[<-Gy ι m _ j,m1];simp only[cg];exact iv (by rw[K3,p];exact aQ _)
     ·simp only[VR];exact .inl ⟨_,db _ _ _,rfl⟩
    ·refine⟨_,h,.mk (x:=.slice (some ⟨w.heap.size,0,none⟩) n n) (ob:=.cells A e) ?_ ⟨A,e,(0,0),rfl,VRs.mono (oL U) _ _ j,rV _⟩ ?_⟩
     ·simp only[execOp,M,aw,k,ay,aA]
     ·simp only[VR];exact⟨_,n,db _ _ _,λm D=>by simpa using D,aQ _,rfl⟩
   ·cases h
  ·cases h
 ·cases h
def Kq{t:TypeId}{x:Operand}(g:o.op=.range t x)(d:TR ι s.T a.tmps)(h:effK P (opd s.T) s.H f (.range t x) c=some z):
  ∃e,c e=some z/\gj P ι f o a w e:=by
 simp only[effK]at h;split at h
 ·rename_i hd;split at h
  ·rename_i l hx;have b:=bp d hx;simp only[VR]at b;refine⟨_,h,.mk (x:=.pointer (some ⟨w.heap.size,0,none⟩)) (ob:=.stringIter ⟨l.toArray⟩ 0) ?_ rfl (by simp only[VR];exact⟨_,db _ _ _,rfl⟩)⟩;simp only[execOp,g,Instr.range,aw,ay,aT hd,b,aA,vt,wG]
  ·cases h
 ·cases h
end ops
end Go.Abs
