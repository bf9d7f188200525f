
import Derived.Test.YtadejcglcffgbabGreatDoorAbsF
set_option linter.unusedSimpArgs false
set_option linter.unusedVariables false
set_option linter.defProp false
namespace Go.Abs
variable {P:Program}
def mr(o j:Nat):padd o j=o+j:=by
 unfold padd;cases h:Nat.beq o 0 with
 | true=>have:o=0:=be h;simp[this]
 | false=>rfl
def sw(j s:Nat):pmul j s=j*s:=by
 unfold pmul;cases h:Nat.beq s 1 with
 | true=>have:s=1:=be h;simp[this]
 | false=>rfl
def lB{n j:Nat}{i:Int}(h:ix n i=some j):0<=i/\i<n/\j=i.toNat:=by
 unfold ix at h;split at h
 ·rename_i hc;simp only[aq]at h;exact⟨hc.1,hc.2,h.symm⟩
 ·cases h
def jo{n j:Nat}{i:Int}(h:bx n i=some j):0<=i/\i<=n/\j=i.toNat:=by
 unfold bx at h;split at h
 ·rename_i hc;simp only[aq]at h;exact⟨hc.1,hc.2,h.symm⟩
 ·cases h
def lJ{ι:Inj}{T:List (Nat×Option V)}{a:Act}(c:TR ι T a.tmps){x:Option Operand}{l:Option Int}(h:nj (opd T) x=some l):
  (l=none/\x.map a.eval=none)\/∃k n,l=some n/\x.map a.eval=some (.int k n):=by
 unfold nj at h;split at h
 ·simp only[aq]at h;subst h;exact .inl ⟨rfl,rfl⟩
 ·split at h
  ·rename_i k n b;simp only[aq]at h;subst h;have:=aZ c b;simp only[VR]at this;exact .inr ⟨k,n,rfl,by simp[this]⟩
  ·cases h
def tR{α:Type}{ι:Inj}{T:List (Nat×Option V)}{a:Act}(r:TR ι T a.tmps){lo hi:Option Operand}{l h:Option Int}(t:nj (opd T) lo=some l)
  (u:nj (opd T) hi=some h) {n len:Nat} {isSlice:Bool} {c:Nat->Nat->Option α} {z:α} (e:(hiK n len h λh=>loK h l λl=>c h l)=some z):
  ∃H L,c H L=some z/\(h=none\/H<=n)/\(h=none->H=len)/\(h≠none->H<=n)/\L<=H/\(l=none->L=0)/\
   ∀w,(Instr.sliceBounds isSlice len n (lo.map a.eval) (hi.map a.eval) none).run P w=.ok (L,H,n) w:=by
 have j:∀{H:Nat},loK H l (c H)=some z->∃L,c H L=some z/\L<=H/\(l=none->L=0)/\
   ∀w,(match lo.map a.eval with | some v=>Instr.sliceBound v H .sliceB | none=>pure 0).run P w=.ok L w:=by
  intro H e;rcases lJ r t with⟨rfl,g⟩ | ⟨k,m,rfl,g⟩
  ·exact⟨0,e,oL _,λ_=>rfl,λw=>by rw[g];rfl⟩
  ·simp only[loK]at e;obtain⟨L,o,i⟩:=av e;obtain⟨g0,q,rfl⟩:=jo o;exact⟨_,i,by omega,by simp,λw=>by rw[g];exact run_sliceBound w k m H .sliceB g0 q⟩
 rcases lJ r u with⟨rfl,g⟩ | ⟨k,m,rfl,g⟩
 ·simp only[hiK]at e;obtain⟨L,o,i,p,d⟩:=j e;refine⟨len,L,o,.inl rfl,λ_=>rfl,by simp,i,p,λw=>?_⟩;have d:=d w;rw[g];simp only[Instr.sliceBounds,ax,aA,az,tX,cj,aG];cases b:lo.map a.eval with
  | none=>rw[b]at d;simp only[aA,ug,qw]at d;simp[d]
  | some v=>rw[b]at d;simp only[]at d;simp[d]
 ·simp only[hiK]at e;obtain⟨H,o,i⟩:=av e;obtain⟨g0,q,rfl⟩:=jo o;obtain⟨L,p,d,x,f⟩:=j i;refine⟨_,L,p,.inr (by omega),by simp,λ_=>by omega,d,x,λw=>?_⟩;have f:=f w;rw[g];have s:=run_sliceBound (P:=P) w k m n (if isSlice=true then .sliceAcap else .sliceAlen) g0 q;simp only[Instr.sliceBounds,ax,aA,az,tX,cj,aG,s];cases b:lo.map a.eval with
  | none=>rw[b]at f;simp only[aA,ug,qw]at f;simp[f]
  | some v=>rw[b]at f;simp only[]at f;simp[f]
section ops
variable {α:Type} {ι:Inj} {s:St} {a:Act} {w:World} {f:Nat} {o:Oper} {c:Eff->Option α} {z:α}
def HJ{t:TypeId}{x:Operand}(B:o.op=.load t x)(C:TR ι s.T a.tmps)(D:WR ι s.H s.nb w)(h:effK P (opd s.T) s.H f (.load t x) c=some z):
  ∃e,c e=some z/\eO P ι f o a w e:=by
 simp only[effK]at h;split at h
 ·rename_i b off hx;split at h
  ·rename_i blk y;obtain⟨v,X,r,A,I,u,p⟩:=B8 D y h;have d:=aZ C hx;simp only[VR]at d;obtain⟨U,i,m⟩:=d;rw[I]at i;cases i;exact⟨_,A,.val (by simp only[execOp,B,m,ax,u,az,aA]) p⟩
  ·cases h
 ·rename_i S b j off hx;split at h
  case h_2=>cases h
  rename_i tr l y;split at h
  case h_2=>cases h
  rename_i n;have n:=be n;subst n;obtain⟨F,L,h⟩:=av h;have d:=aZ C hx;simp only[VR]at d;obtain⟨q,i,m⟩:=d;rcases gD D y with⟨Q,V,e,fr,g,G,W,O,M,J,N⟩ | ⟨g,_⟩
  ·rw[i]at g;cases g;obtain⟨E,R⟩:=JJ J L;have K:l.length*tr.length<=q.k*tr.length:=lz _ (by omega);rw[<-gh]at m;obtain⟨v,X,A,u,p⟩:=HS (o:=off) G (by rw[iK,E];exact(kE ι tr F _).2 rfl) (by rw[iK];omega) h;exact⟨_,A,.val (by simp only[execOp,B,m,ax,u,az,aA]) p⟩
  ·rw[i]at g;cases g
 ·cases h
def Gj{t:TypeId}{x y:Operand}(O:o.op=.store t x y)(A:TR ι s.T a.tmps)(R:WR ι s.H s.nb w)(h:effK P (opd s.T) s.H f (.store t x y) c=some z):
  ∃e,c e=some z/\eO P ι f o a w e:=by
 simp only[effK]at h;split at h
 ·rename_i b off hx;obtain⟨v,hy,h⟩:=av h;split at h
  ·rename_i blk K;obtain⟨S,D,r,g,E,J,G⟩:=Gy R K (aZ A hy) h;have n:=aZ A hx;simp only[VR]at n;obtain⟨r',d,B⟩:=n;rw[E]at d;cases d;refine⟨_,g,?_⟩;unfold eO;exact⟨r,E,λ_=>⟨D,.skip,by simp only[execOp,O,B,ax,J,az,aA],G,.skip rfl⟩⟩
  ·cases h
 ·rename_i zz b j off hx;obtain⟨v,hy,N⟩:=av h;clear h;have h:=N;clear N;split at h
  case h_2=>cases h
  rename_i tr l K;split at h
  case h_2=>cases h
  rename_i i;have i:=be i;subst i;obtain⟨xr,I,h⟩:=av h;have n:=aZ A hx;simp only[VR]at n;obtain⟨q,d,B⟩:=n;rcases gD R K with⟨q',U,e,fr,p,g2,g3,Y,V,Q,W⟩ | ⟨p,_⟩
  ·rw[d]at p;cases p;obtain⟨Z,r2⟩:=JJ Q I;have hle:l.length*tr.length<=q.k*tr.length:=lz _ (by omega);rw[<-gh]at B;obtain⟨l',X,g,E,J,G⟩:=E9 (o:=off) (fr:=fr) g2 (by rw[iK,Z];exact(kE ι tr xr _).2 rfl) (by rw[iK];omega) (aZ A hy) h;simp only at g;obtain⟨C,M,g⟩:=av g;have hX:X=vals tr C:=(kE ι tr C X).1 (by rw[<-rE M];exact J);subst hX;have F:j<l.length:=by
    rcases aI j l.length with L | L
    ·exact L
    ·rw[dX L]at I;cases I
   have m:(splA U (q.o+j*tr.length) (vals tr C)).size=U.size:=sc (by rw[eX];omega);refine⟨_,g,?_⟩;unfold eO;refine⟨q,d,λi=>?_⟩;have u:=W.resolve_left (by rw[i];simp);refine⟨_,.skip,by simp only[execOp,O,B,ax,G u,az,aA];rfl,⟨_,e,fr,rfl,by rw[vV];exact g3,Y,by rw[m];exact V,?_,.inr (by rw[m];exact u)⟩,.skip rfl⟩;exact H7 (by omega) Q C F
  ·rw[d]at p;cases p
 ·cases h
def EZ{t:TypeId}(j:o.op=.alloc t)(h:effK P (opd s.T) s.H f (.alloc t) c=some z):∃e,c e=some z/\eO P ι f o a w e:=by
 simp only[effK]at h;obtain⟨v,g,h⟩:=av h;obtain⟨x,i,l,k,b,d⟩:=rt (upd ι f (some (Rf.of w.heap.size (0) (0)))) g;refine⟨_,h,.mk (x:=.pointer (some ⟨w.heap.size,0,none⟩)) (ob:=.cells x.cells t) ?_ (AH (Ko b) t) ?_⟩
 ·simp only[execOp,j,Instr.alloc,ax,d,az,newVar,newRow,rP,aA,uf]
 ·simp only[VR];exact⟨_,cH _ _ _,rfl⟩
def LH{t:TypeId}{x:Operand}(i:o.op=.box t x)(d:TR ι s.T a.tmps)(b:ι f=none)(h:effK P (opd s.T) s.H f (.box t x) c=some z):
  ∃e,c e=some z/\eO P ι f o a w e:=by
 simp only[effK]at h;obtain⟨v,g,h⟩:=av h;have hv':=aZ d g;refine⟨_,h,.mk (x:=.pointer (some ⟨w.heap.size,0,none⟩)) (ob:=.cells (a.eval x).cells t) ?_ (AH (VR.mono (mj b) _ _ hv') t) ?_⟩
 ·simp only[execOp,i,Instr.box,ax,az,newVar,newRow,rP,aA,uf]
 ·simp only[VR];exact⟨_,cH _ _ _,rfl⟩
def CY(a:List Field)(h:(a.all λfd=>Nat.blt 0 (P.cellsOf fd.type))=true)(w:World):
  (a.mapM λ(f:Field)=>do pure (f.offset,<-sizeOf f.type)).run P w=.ok (xI P a) w:=by
 induction a with
 | nil=>rfl
 | cons fd a ih=>
  simp only[lw,aC]at h;obtain⟨i,hi⟩:=bC h.1;have ih:=ih h.2;simp only[sV,ax,ei hi,az,aA,ih];rfl
def EI{t:TypeId}{g:Array (Nat×Operand)}(E:o.op=.build t g)(I:TR ι s.T a.tmps)(h:effK P (opd s.T) s.H f (.build t g) c=some z):
  ∃e,c e=some z/\eO P ι f o a w e:=by
 simp only[effK]at h;obtain⟨N,A,h⟩:=av h;obtain⟨C,hp,h⟩:=av h;obtain⟨x,i,O,M,K,F⟩:=rt ι A;obtain⟨D,G⟩:=qo I _ _ hp;have k:=kB K;have q:(g.map λ(i,x)=>(i,a.eval x)).toList=g.toList.map λ(i,x)=>(i,a.eval x):=by simp
 split at h
 ·rename_i m y;split at h
  ·rename_i j;obtain⟨l,v,h⟩:=av h;obtain⟨r,b,d⟩:=rh _ _ (g.toList.map λ(i,x)=>(i,a.eval x)) _ _ _ k D (by simp[VRs]) G v;refine⟨_,h,.val (x:=.agg r) ?_ (by simp only[VR];exact⟨r,rfl,d⟩)⟩;have J:(m.mapM λ(f:Field)=>do pure (f.offset,<-sizeOf f.type)).run P w=.ok (xI P m.toList).toArray w:=by
    rw[Js];simp only[Sem.run_map,CY m.toList j,az]
   have B:(λ(i:Nat)=>(xI P m.toList).toArray[i]?)=λ(i:Nat)=>(xI P m.toList)[i]?:=by
    funext i;simp
   simp only[execOp,E,Instr.build,ax,F,az,aR y,J,B,q,b,aA]
  ·cases h
 ·rename_i n e y;split at h
  ·rename_i p;obtain⟨L,u⟩:=bC p;obtain⟨l,v,h⟩:=av h;obtain⟨r,b,d⟩:=rh _ _ (g.toList.map λ(i,x)=>(i,a.eval x)) _ _ _ k D (by simp[VRs]) G v;refine⟨_,h,.val (x:=.agg r) ?_ (l9 d)⟩;simp only[execOp,E,Instr.build,ax,F,az,aR y,ei u,q,b,aA]
  ·cases h
 ·cases h
def tJ(l:List V):∀n,(wX l n).length=n*l.length
 | 0=>by simp[wX]
 | n+1=>by simp[wX,tJ l n,fh,oN]
def Hj{ι:Inj}{l:List V}{a:Array Value}(h:VRs ι l a.toList)(k:0<l.length):∀n,VRs ι (wX l n) ((Array.range (n*l.length)).map (a[·%a.size]!)).toList:=by
 have b:a.size=l.length:=by simpa using h.length
 intro n;refine VRs.of_get (by simp[tJ]) λj v x f hx=>?_;have key:∀n j v,(wX l n)[j]?=some v->l[j%l.length]?=some v:=by
  intro n
  induction n with
  | zero=>intro j v h;simp[wX]at h
  | succ n ih=>
   intro j v h;simp only[wX]at h;by_cases c:j<l.length
   ·rw[lb c]at h;rw[oH c];exact h
   ·rw[mM (by omega)]at h;have:=ih _ _ h;rwa[<-Nat.mod_eq_sub_mod (by omega)]at this
 have m:=key n j v f;obtain⟨y,hy,e⟩:=h.get m;have d:j<n*l.length:=by
  rcases aI j (n*l.length)with g | g
  ·exact g
  ·rw[dX (by rw[tJ];omega)]at f;cases f
 have i:j%l.length<a.size:=by rw[b];exact m9 _ k
 have:x=a[j%a.size]! := by
  simp[d]at hx;exact hx.symm
 rw[this,b];have hy':a[j%l.length]?=some y:=by simpa using hy
 have:a[j%l.length]! = y:=by
  rw[getElem!_def,hy']
 rw[this];exact e
def um{t e:TypeId}{n:Nat}{zc:Value}{i:TypeInfo}{h:Array (Nat×Value)}{g:Array Value}{w:World}(k:P.underlying t=some (.slice e))(hi:P.info? e=some i)
  (c:n*P.cellsOf e<=1000) (j:∀w,(zeroValue e).run P w=.ok zc w)
  (a:Instr.fill (λi=>some (i*P.cellsOf e,P.cellsOf e)) ((Array.range (n*P.cellsOf e)).map (zc.cells[·%zc.cells.size]!)) h.toList=some g):
  (Instr.buildSlice t n h).run P w=.ok (.slice (some ⟨w.heap.size,0,none⟩) n n) (w.alloc (.cells g e)):=by
 have f:¬(n*P.cellsOf e>2 ^ 24):=Nat.not_lt.2 (ow c (by decide));unfold Instr.buildSlice;simp only[ax,az,aR k,ei hi];rw[ab f];by_cases d:n*P.cellsOf e=0
 ·rw[ad d];have b:Array.range 0=#[]:=rfl;rw[d]at a ⊢;rw[b,Ao]at a;simp only[ax,aA,az,b,Ao,a,newRow,rP,uf]
 ·rw[ab d];simp only[ax,j,aA,az,a,newRow,rP,uf]
def ur{t:TypeId}{n:Nat}{v:Array (Nat×Operand)}(L:o.op=.buildSlice t n v)(U:TR ι s.T a.tmps)(S:ι f=none)(h:effK P (opd s.T) s.H f (.buildSlice t n v) c=some z):
  ∃e,c e=some z/\eO P ι f o a w e:=by
 simp only[effK]at h;split at h
 ·rename_i e R;split at h
  ·rename_i M;simp only[aC]at M;obtain⟨E,r⟩:=M;obtain⟨Y,B⟩:=bC r;obtain⟨zv,C,h⟩:=av h;obtain⟨G,hp,h⟩:=av h;split at h
   ·rename_i b;have b:=be b;obtain⟨l,Q,h⟩:=av h;obtain⟨x,i,h1,Z,X,V⟩:=rt ι C;obtain⟨N,W⟩:=qo U _ _ hp;have D:=kB X;have I:(v.map λ(i,x)=>(i,a.eval x)).toList=v.toList.map λ(i,x)=>(i,a.eval x):=by simp
    have hpos':0<P.cellsOf e:=aJ r;have A:=Hj D (by omega) n;rw[b]at A;obtain⟨u,g,j⟩:=rh _ _ (v.toList.map λ(i,x)=>(i,a.eval x)) _ _ _ A N (by simp[VRs]) W Q;rw[<-I]at g;have k:=um (w:=w) R B (aJ E) V g;split at h
    ·rename_i tr O;split at h
     case h_2=>cases h
     rename_i y;simp only[aC,iR]at y;obtain⟨K,J⟩:=y;obtain⟨m,F,h⟩:=av h;obtain⟨m1,m2⟩:=yH F (by rw[J,K]);have p:u.size=n*tr.length:=by rw[K,<-J];simpa using j.length
     rw[m2]at j;refine⟨_,h,.mkR (d:=w.drawn) (q:=(Rf.of w.heap.size (n) (n))) (x:=.slice (some ⟨w.heap.size,0,none⟩) n n) (ob:=.cells u e) ?_ rfl rfl
      ⟨u,e,(0,0),rfl,m1,aV _,by rw[p];simp,?_,.inr (pa _)⟩ ?_⟩
     ·simp only[execOp,L,ax,k,az,aA]
     ·rw[<-CO ι m _ j,m1];simp only[gk];exact gg (by rw[Ln,p];exact aV _)
     ·simp only[VR];exact .inl ⟨_,cH _ _ _,rfl⟩
    ·refine⟨_,h,.mk (x:=.slice (some ⟨w.heap.size,0,none⟩) n n) (ob:=.cells u e) ?_ ⟨u,e,(0,0),rfl,VRs.mono (mj S) _ _ j,pa _⟩ ?_⟩
     ·simp only[execOp,L,ax,k,az,aA]
     ·simp only[VR];exact⟨_,n,cH _ _ _,λm F=>by simpa using F,aV _,rfl⟩
   ·cases h
  ·cases h
 ·cases h
def D9{t:TypeId}{x:Operand}(i:o.op=.range t x)(d:TR ι s.T a.tmps)(h:effK P (opd s.T) s.H f (.range t x) c=some z):
  ∃e,c e=some z/\eO P ι f o a w e:=by
 simp only[effK]at h;split at h
 ·rename_i g;split at h
  ·rename_i l hx;have b:=aZ d hx;simp only[VR]at b;refine⟨_,h,.mk (x:=.pointer (some ⟨w.heap.size,0,none⟩)) (ob:=.stringIter ⟨l.toArray⟩ 0) ?_ rfl (by simp only[VR];exact⟨_,cH _ _ _,rfl⟩)⟩;simp only[execOp,i,Instr.range,ax,az,aR g,b,aA,rP,uf]
  ·cases h
 ·cases h
end ops
end Go.Abs
