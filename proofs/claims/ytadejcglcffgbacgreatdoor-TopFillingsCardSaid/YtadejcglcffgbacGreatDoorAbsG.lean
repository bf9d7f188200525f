
import Derived.Test.YtadejcglcffgbacGreatDoorAbsF
set_option linter.unusedSimpArgs false
set_option linter.unusedVariables false
set_option linter.defProp false
namespace Go.Abs
variable {P:Program}
def lO(o j:Nat):padd o j=o+j:=by
 unfold padd;cases h:Nat.beq o 0 with
 | true=>have:o=0:=aS h;simp[this]
 | false=>rfl
def sj(j s:Nat):pmul j s=j*s:=by
 unfold pmul;cases h:Nat.beq s 1 with
 | true=>have:s=1:=aS h;simp[this]
 | false=>rfl
def kQ{n j:Nat}{i:Int}(h:ix n i=some j):0<=i/\i<n/\j=i.toNat:=by
 unfold ix at h;split at h
 ·rename_i hc;simp only[af]at h;exact⟨hc.1,hc.2,h.symm⟩
 ·cases h
def iP{n j:Nat}{i:Int}(h:bx n i=some j):0<=i/\i<=n/\j=i.toNat:=by
 unfold bx at h;split at h
 ·rename_i hc;simp only[af]at h;exact⟨hc.1,hc.2,h.symm⟩
 ·cases h
def kS{ι:Inj}{T:List (Nat×Option V)}{a:Act}(c:TR ι T a.tmps){x:Option Operand}{l:Option Int}(h:mG (opd T) x=some l):
  (l=none/\x.map a.eval=none)\/∃k n,l=some n/\x.map a.eval=some (.int k n):=by
 unfold mG at h;split at h
 ·simp only[af]at h;subst h;exact .inl ⟨rfl,rfl⟩
 ·split at h
  ·rename_i k n b;simp only[af]at h;subst h;have:=aP c b;simp only[VR]at this;exact .inr ⟨k,n,rfl,by simp[this]⟩
  ·cases h
def sH{α:Type}{ι:Inj}{T:List (Nat×Option V)}{a:Act}(p:TR ι T a.tmps){lo hi:Option Operand}{l h:Option Int}(r:mG (opd T) lo=some l)
  (q:mG (opd T) hi=some h) {n len:Nat} {isSlice:Bool} {c:Nat->Nat->Option α} {z:α} (e:(hiK n len h λh=>loK h l λl=>c h l)=some z):
  ∃H L,c H L=some z/\(h=none\/H<=n)/\(h=none->H=len)/\(h≠none->H<=n)/\L<=H/\(l=none->L=0)/\
   ∀w,(Instr.sliceBounds isSlice len n (lo.map a.eval) (hi.map a.eval) none).run P w=.ok (L,H,n) w:=by
 have g:∀{H:Nat},loK H l (c H)=some z->∃L,c H L=some z/\L<=H/\(l=none->L=0)/\
   ∀w,(match lo.map a.eval with | some v=>Instr.sliceBound v H .sliceB | none=>pure 0).run P w=.ok L w:=by
  intro H e;rcases kS p r with⟨rfl,h1⟩ | ⟨k,m,rfl,h1⟩
  ·exact⟨0,e,mT _,λ_=>rfl,λw=>by rw[h1];rfl⟩
  ·simp only[loK]at e;obtain⟨L,h2,i⟩:=ah e;obtain⟨g0,j,rfl⟩:=iP h2;exact⟨_,i,by omega,by simp,λw=>by rw[h1];exact run_sliceBound w k m H .sliceB g0 j⟩
 rcases kS p q with⟨rfl,h1⟩ | ⟨k,m,rfl,h1⟩
 ·simp only[hiK]at e;obtain⟨L,h2,i,o,d⟩:=g e;refine⟨len,L,h2,.inl rfl,λ_=>rfl,by simp,i,o,λw=>?_⟩;have d:=d w;rw[h1];simp only[Instr.sliceBounds,al,av,ar,sC,cb,aD];cases b:lo.map a.eval with
  | none=>rw[b]at d;simp only[av,tU,and_true]at d;simp[d]
  | some v=>rw[b]at d;simp only[]at d;simp[d]
 ·simp only[hiK]at e;obtain⟨H,h2,i⟩:=ah e;obtain⟨g0,j,rfl⟩:=iP h2;obtain⟨L,o,d,t,f⟩:=g i;refine⟨_,L,o,.inr (by omega),by simp,λ_=>by omega,d,t,λw=>?_⟩;have f:=f w;rw[h1];have s:=run_sliceBound (P:=P) w k m n (if isSlice=true then .sliceAcap else .sliceAlen) g0 j;simp only[Instr.sliceBounds,al,av,ar,sC,cb,aD,s];cases b:lo.map a.eval with
  | none=>rw[b]at f;simp only[av,tU,and_true]at f;simp[f]
  | some v=>rw[b]at f;simp only[]at f;simp[f]
section ops
variable {α:Type} {ι:Inj} {s:St} {a:Act} {w:World} {f:Nat} {o:Oper} {c:Eff->Option α} {z:α}
def GW{t:TypeId}{x:Operand}(B:o.op=.load t x)(C:TR ι s.T a.tmps)(D:WR ι s.H s.nb w)(h:effK P (opd s.T) s.H f (.load t x) c=some z):
  ∃e,c e=some z/\eh P ι f o a w e:=by
 simp only[effK]at h;split at h
 ·rename_i b off A;split at h
  ·rename_i blk n;obtain⟨v,X,r,h1,h2,p,y⟩:=Ax D n h;have d:=aP C A;simp only[VR]at d;obtain⟨U,g,m⟩:=d;rw[h2]at g;cases g;exact⟨_,h1,.val (by simp only[execOp,B,m,al,p,ar,av]) y⟩
  ·cases h
 ·rename_i L b j off A;split at h
  case h_2=>cases h
  rename_i tr l n;split at h
  case h_2=>cases h
  rename_i u;have u:=aS u;subst u;obtain⟨E,F,h⟩:=ah h;have d:=aP C A;simp only[VR]at d;obtain⟨q,g,m⟩:=d;rcases f9 D n with⟨N,S,e,fr,i,I,V,R,Q,G,M⟩ | ⟨i,_⟩
  ·rw[g]at i;cases i;obtain⟨J,O⟩:=IY G F;have K:l.length*tr.length<=q.k*tr.length:=kH _ (by omega);rw[<-gL]at m;obtain⟨v,X,h1,p,y⟩:=HS (o:=off) I (by rw[ir,J];exact(jg ι tr E _).2 rfl) (by rw[ir];omega) h;exact⟨_,h1,.val (by simp only[execOp,B,m,al,p,ar,av]) y⟩
  ·rw[g]at i;cases i
 ·cases h
def D9{t:TypeId}{x y:Operand}(N:o.op=.store t x y)(A:TR ι s.T a.tmps)(U:WR ι s.H s.nb w)(h:effK P (opd s.T) s.H f (.store t x y) c=some z):
  ∃e,c e=some z/\eh P ι f o a w e:=by
 simp only[effK]at h;split at h
 ·rename_i b off M;obtain⟨v,E,h⟩:=ah h;split at h
  ·rename_i blk C;obtain⟨R,G,r,h1,h2,D,K⟩:=FT U C (aP A E) h;have g:=aP A M;simp only[VR]at g;obtain⟨r',d,B⟩:=g;rw[h2]at d;cases d;refine⟨_,h1,?_⟩;unfold eh;exact⟨r,h2,λ_=>⟨G,.skip,by simp only[execOp,N,B,al,D,ar,av],K,.skip rfl⟩⟩
  ·cases h
 ·rename_i zz b j off M;obtain⟨v,E,S⟩:=ah h;clear h;have h:=S;clear S;split at h
  case h_2=>cases h
  rename_i tr l C;split at h
  case h_2=>cases h
  rename_i i;have i:=aS i;subst i;obtain⟨W,F,h⟩:=ah h;have g:=aP A M;simp only[VR]at g;obtain⟨q,d,B⟩:=g;rcases f9 U C with⟨q',O,e,fr,n,g2,g3,Z,Y,Q,V⟩ | ⟨n,_⟩
  ·rw[d]at n;cases n;obtain⟨r1,r2⟩:=IY Q F;have hle:l.length*tr.length<=q.k*tr.length:=kH _ (by omega);rw[<-gL]at B;obtain⟨l',X,h1,h2,D,K⟩:=F3 (o:=off) (fr:=fr) g2 (by rw[ir,r1];exact(jg ι tr W _).2 rfl) (by rw[ir];omega) (aP A E) h;simp only at h1;obtain⟨u,I,h1⟩:=ah h1;have hX:X=vals tr u:=(jg ι tr u X).1 (by rw[<-rz I];exact D);subst hX;have L:j<l.length:=by
    rcases aA j l.length with J | J
    ·exact J
    ·rw[ec J]at F;cases F
   have p:(splA O (q.o+j*tr.length) (vals tr u)).size=O.size:=sq (by rw[gF];omega);refine⟨_,h1,?_⟩;unfold eh;refine⟨q,d,λi=>?_⟩;have m:=V.resolve_left (by rw[i];simp);refine⟨_,.skip,by simp only[execOp,N,B,al,K m,ar,av];rfl,⟨_,e,fr,rfl,by rw[List.length_set];exact g3,Z,by rw[p];exact Y,?_,.inr (by rw[p];exact m)⟩,.skip rfl⟩;exact G0 (by omega) Q u L
  ·rw[d]at n;cases n
 ·cases h
def F7{t:TypeId}(g:o.op=.alloc t)(h:effK P (opd s.T) s.H f (.alloc t) c=some z):∃e,c e=some z/\eh P ι f o a w e:=by
 simp only[effK]at h;obtain⟨v,b,h⟩:=ah h;obtain⟨x,i,h1,h2,j,d⟩:=rF (upd ι f (some (Rf.of w.heap.size (0) (0)))) b;refine⟨_,h,.mk (x:=.pointer (some ⟨w.heap.size,0,none⟩)) (ob:=.cells x.cells t) ?_ (Av (J4 j) t) ?_⟩
 ·simp only[execOp,g,Instr.alloc,al,d,ar,newVar,newRow,sL,av,sM]
 ·simp only[VR];exact⟨_,bZ _ _ _,rfl⟩
def Kw{t:TypeId}{x:Operand}(g:o.op=.box t x)(i:TR ι s.T a.tmps)(b:ι f=none)(h:effK P (opd s.T) s.H f (.box t x) c=some z):
  ∃e,c e=some z/\eh P ι f o a w e:=by
 simp only[effK]at h;obtain⟨v,d,h⟩:=ah h;have hv':=aP i d;refine⟨_,h,.mk (x:=.pointer (some ⟨w.heap.size,0,none⟩)) (ob:=.cells (a.eval x).cells t) ?_ (Av (VR.mono (l6 b) _ _ hv') t) ?_⟩
 ·simp only[execOp,g,Instr.box,al,ar,newVar,newRow,sL,av,sM]
 ·simp only[VR];exact⟨_,bZ _ _ _,rfl⟩
def Ci(a:List Field)(h:(a.all λfd=>Nat.blt 0 (P.cellsOf fd.type))=true)(w:World):
  (a.mapM λ(f:Field)=>do pure (f.offset,<-sizeOf f.type)).run P w=.ok (wX P a) w:=by
 induction a with
 | nil=>rfl
 | cons fd a ih=>
  simp only[ln,aw]at h;obtain⟨i,hi⟩:=bn h.1;have ih:=ih h.2;simp only[wh,al,dN hi,ar,av,ih];rfl
def Ey{t:TypeId}{g:Array (Nat×Operand)}(E:o.op=.build t g)(J:TR ι s.T a.tmps)(h:effK P (opd s.T) s.H f (.build t g) c=some z):
  ∃e,c e=some z/\eh P ι f o a w e:=by
 simp only[effK]at h;obtain⟨M,u,h⟩:=ah h;obtain⟨y,I,h⟩:=ah h;obtain⟨x,i,h1,h2,K,F⟩:=rF ι u;obtain⟨D,G⟩:=pX J _ _ I;have p:=jV K;have k:(g.map λ(i,x)=>(i,a.eval x)).toList=g.toList.map λ(i,x)=>(i,a.eval x):=by simp
 split at h
 ·rename_i q A;split at h
  ·rename_i j;obtain⟨l,C,h⟩:=ah h;obtain⟨r,b,d⟩:=rJ _ _ (g.toList.map λ(i,x)=>(i,a.eval x)) _ _ _ p D (by simp[VRs]) G C;refine⟨_,h,.val (x:=.agg r) ?_ (by simp only[VR];exact⟨r,rfl,d⟩)⟩;have hm:(q.mapM λ(f:Field)=>do pure (f.offset,<-sizeOf f.type)).run P w=.ok (wX P q.toList).toArray w:=by
    rw[I4];simp only[Sem.run_map,Ci q.toList j,ar]
   have B:(λ(i:Nat)=>(wX P q.toList).toArray[i]?)=λ(i:Nat)=>(wX P q.toList)[i]?:=by
    funext i;simp
   simp only[execOp,E,Instr.build,al,F,ar,aJ A,hm,B,k,b,av]
  ·cases h
 ·rename_i n e A;split at h
  ·rename_i m;obtain⟨L,v⟩:=bn m;obtain⟨l,C,h⟩:=ah h;obtain⟨r,b,d⟩:=rJ _ _ (g.toList.map λ(i,x)=>(i,a.eval x)) _ _ _ p D (by simp[VRs]) G C;refine⟨_,h,.val (x:=.agg r) ?_ (lU d)⟩;simp only[execOp,E,Instr.build,al,F,ar,aJ A,dN v,k,b,av]
  ·cases h
 ·cases h
def tX(l:List V):∀n,(vp l n).length=n*l.length
 | 0=>by simp[vp]
 | n+1=>by simp[vp,tX l n,ea,pO]
def Hi{ι:Inj}{l:List V}{a:Array Value}(h:VRs ι l a.toList)(p:0<l.length):∀n,VRs ι (vp l n) ((Array.range (n*l.length)).map (a[·%a.size]!)).toList:=by
 have c:a.size=l.length:=by simpa using h.length
 intro n;refine VRs.of_get (by simp[tX]) λj v x d i=>?_;have key:∀n j v,(vp l n)[j]?=some v->l[j%l.length]?=some v:=by
  intro n
  induction n with
  | zero=>intro j v h;simp[vp]at h
  | succ n ih=>
   intro j v h;simp only[vp]at h;by_cases b:j<l.length
   ·rw[ka b]at h;rw[n7 b];exact h
   ·rw[kf (by omega)]at h;have:=ih _ _ h;rwa[<-Nat.mod_eq_sub_mod (by omega)]at this
 have m:=key n j v d;obtain⟨y,o,e⟩:=h.get m;have f:j<n*l.length:=by
  rcases aA j (n*l.length)with g | g
  ·exact g
  ·rw[ec (by rw[tX];omega)]at d;cases d
 have k:j%l.length<a.size:=by rw[c];exact mB _ p
 have:x=a[j%a.size]! := by
  simp[f]at i;exact i.symm
 rw[this,c];have hy':a[j%l.length]?=some y:=by simpa using o
 have:a[j%l.length]! = y:=by
  rw[getElem!_def,hy']
 rw[this];exact e
def uh{t e:TypeId}{n:Nat}{zc:Value}{i:TypeInfo}{g:Array (Nat×Value)}{f:Array Value}{w:World}(j:P.underlying t=some (.slice e))(hi:P.info? e=some i)
  (d:n*P.cellsOf e<=1000) (h:∀w,(zeroValue e).run P w=.ok zc w)
  (a:Instr.fill (λi=>some (i*P.cellsOf e,P.cellsOf e)) ((Array.range (n*P.cellsOf e)).map (zc.cells[·%zc.cells.size]!)) g.toList=some f):
  (Instr.buildSlice t n g).run P w=.ok (.slice (some ⟨w.heap.size,0,none⟩) n n) (w.alloc (.cells f e)):=by
 have c:¬(n*P.cellsOf e>2 ^ 24):=Nat.not_lt.2 (lT d (by decide));unfold Instr.buildSlice;simp only[al,ar,aJ j,dN hi];rw[ab c];by_cases h0:n*P.cellsOf e=0
 ·rw[ad h0];have b:Array.range 0=#[]:=rfl;rw[h0]at a ⊢;rw[b,AP]at a;simp only[al,av,ar,b,AP,a,newRow,sL,sM]
 ·rw[ab h0];simp only[al,h,av,ar,a,newRow,sL,sM]
def uq{t:TypeId}{n:Nat}{v:Array (Nat×Operand)}(K:o.op=.buildSlice t n v)(O:TR ι s.T a.tmps)(W:ι f=none)(h:effK P (opd s.T) s.H f (.buildSlice t n v) c=some z):
  ∃e,c e=some z/\eh P ι f o a w e:=by
 simp only[effK]at h;split at h
 ·rename_i e U;split at h
  ·rename_i J;simp only[aw]at J;obtain⟨G,p⟩:=J;obtain⟨Y,D⟩:=bn p;obtain⟨Z,B,h⟩:=ah h;obtain⟨E,M,h⟩:=ah h;split at h
   ·rename_i g;have g:=aS g;obtain⟨l,X,h⟩:=ah h;obtain⟨x,i,h1,h2,R,S⟩:=rF ι B;obtain⟨N,V⟩:=pX O _ _ M;have F:=jV R;have C:(v.map λ(i,x)=>(i,a.eval x)).toList=v.toList.map λ(i,x)=>(i,a.eval x):=by simp
    have hpos':0<P.cellsOf e:=az p;have y:=Hi F (by omega) n;rw[g]at y;obtain⟨u,b,j⟩:=rJ _ _ (v.toList.map λ(i,x)=>(i,a.eval x)) _ _ _ y N (by simp[VRs]) V X;rw[<-C]at b;have k:=uh (w:=w) U D (az G) S b;split at h
    ·rename_i tr Q;split at h
     case h_2=>cases h
     rename_i A;simp only[aw,fP]at A;obtain⟨L,I⟩:=A;obtain⟨m,hm,h⟩:=ah h;obtain⟨m1,m2⟩:=xP hm (by rw[I,L]);have r:u.size=n*tr.length:=by rw[L,<-I];simpa using j.length
     rw[m2]at j;refine⟨_,h,.mkR (d:=w.drawn) (q:=(Rf.of w.heap.size (n) (n))) (x:=.slice (some ⟨w.heap.size,0,none⟩) n n) (ob:=.cells u e) ?_ rfl rfl
      ⟨u,e,(0,0),rfl,m1,aI _,by rw[r];simp,?_,.inr (ol _)⟩ ?_⟩
     ·simp only[execOp,K,al,k,ar,av]
     ·rw[<-AG ι m _ j,m1];simp only[iE];exact gI (by rw[Fg,r];exact aI _)
     ·simp only[VR];exact .inl ⟨_,bZ _ _ _,rfl⟩
    ·refine⟨_,h,.mk (x:=.slice (some ⟨w.heap.size,0,none⟩) n n) (ob:=.cells u e) ?_ ⟨u,e,(0,0),rfl,VRs.mono (l6 W) _ _ j,ol _⟩ ?_⟩
     ·simp only[execOp,K,al,k,ar,av]
     ·simp only[VR];exact⟨_,n,bZ _ _ _,λm hm=>by simpa using hm,aI _,rfl⟩
   ·cases h
  ·cases h
 ·cases h
def FK{t:TypeId}{x:Operand}(i:o.op=.range t x)(j:TR ι s.T a.tmps)(h:effK P (opd s.T) s.H f (.range t x) c=some z):
  ∃e,c e=some z/\eh P ι f o a w e:=by
 simp only[effK]at h;split at h
 ·rename_i d;split at h
  ·rename_i l g;have b:=aP j g;simp only[VR]at b;refine⟨_,h,.mk (x:=.pointer (some ⟨w.heap.size,0,none⟩)) (ob:=.stringIter ⟨l.toArray⟩ 0) ?_ rfl (by simp only[VR];exact⟨_,bZ _ _ _,rfl⟩)⟩;simp only[execOp,i,Instr.range,al,ar,aJ d,b,av,sL,sM]
  ·cases h
 ·cases h
end ops
end Go.Abs
