
/- The abstract effect of an operation is what the model's own operation does: all operations but calls of Go functions.
   Conditions: none; generic over the program. -/
import Derived.Test.YthemneooekobkaaGreatDoorAbsF
set_option linter.unusedSimpArgs false
set_option linter.unusedVariables false
namespace Go.Abs
variable {P:Program}
theorem nK (o j:Nat):padd o j=o+j:=by
 unfold padd;cases h:Nat.beq o 0 with
 | true=>have:o=0:=bm h;simp [this]
 | false=>rfl
theorem uV (j s:Nat):pmul j s=j*s:=by
 unfold pmul;cases h:Nat.beq s 1 with
 | true=>have:s=1:=bm h;simp [this]
 | false=>rfl
theorem mi {n j:Nat} {i:Int} (h:ix n i=some j):0<=i/\i<n/\j=i.toNat:=by
 unfold ix at h;split at h
 ·rename_i hc;simp only [aq] at h;exact ⟨hc.1,hc.2,h.symm⟩
 ·cases h
theorem jZ {n j:Nat} {i:Int} (h:bx n i=some j):0<=i/\i<=n/\j=i.toNat:=by
 unfold bx at h;split at h
 ·rename_i hc;simp only [aq] at h;exact ⟨hc.1,hc.2,h.symm⟩
 ·cases h
theorem mQ {ι:Inj} {T:List (Nat×Option V)} {a:Act} (b:TR ι T a.tmps) {x:Option Operand} {l:Option Int} (h:ox (opd T) x=some l):
  (l=none/\x.map a.eval=none)\/∃k n,l=some n/\x.map a.eval=some (.int k n):=by
 unfold ox at h;split at h
 ·simp only [aq] at h;subst h;exact .inl ⟨rfl,rfl⟩
 ·split at h
  ·rename_i k n c;simp only [aq] at h;subst h;have:=bh b c;simp only [VR] at this;exact .inr ⟨k,n,rfl,by simp [this]⟩
  ·cases h
theorem vB {α:Type} {ι:Inj} {T:List (Nat×Option V)} {a:Act} (r:TR ι T a.tmps) {lo hi:Option Operand} {l h:Option Int} (x:ox (opd T) lo=some l)
  (u:ox (opd T) hi=some h) {n len:Nat} {isSlice:Bool} {c:Nat->Nat->Option α} {z:α} (e:(hiK n len h λh=>loK h l λl=>c h l)=some z):
  ∃H L,c H L=some z/\(h=none\/H<=n)/\(h=none->H=len)/\(h≠none->H<=n)/\L<=H/\(l=none->L=0)/\
   ∀w,(Instr.sliceBounds isSlice len n (lo.map a.eval) (hi.map a.eval) none).run P w=.ok (L,H,n) w:=by
 have i:∀{H:Nat},loK H l (c H)=some z->∃L,c H L=some z/\L<=H/\(l=none->L=0)/\
   ∀w,(match lo.map a.eval with | some v=>Instr.sliceBound v H .sliceB | none=>pure 0).run P w=.ok L w:=by
  intro H e;rcases mQ r x with ⟨rfl,g⟩ | ⟨k,m,rfl,g⟩
  ·exact ⟨0,e,fB _,λ_=>rfl,λw=>by rw [g];rfl⟩
  ·simp only [loK] at e;obtain ⟨L,j,o⟩:=av e;obtain ⟨g0,q,rfl⟩:=jZ j;exact ⟨_,o,by omega,by simp,λw=>by rw [g];exact run_sliceBound w k m H .sliceB g0 q⟩
 rcases mQ r u with ⟨rfl,g⟩ | ⟨k,m,rfl,g⟩
 ·simp only [hiK] at e;obtain ⟨L,j,o,p,d⟩:=i e;refine ⟨len,L,j,.inl rfl,λ_=>rfl,by simp,o,p,λw=>?_⟩;have d:=d w;rw [g];simp only [Instr.sliceBounds,ax,aC,az,uz,bq,aE];cases b:lo.map a.eval with
  | none=>rw [b] at d;simp only [aC,uU,vt] at d;simp [d]
  | some v=>rw [b] at d;simp only [] at d;simp [d]
 ·simp only [hiK] at e;obtain ⟨H,j,o⟩:=av e;obtain ⟨g0,q,rfl⟩:=jZ j;obtain ⟨L,p,d,t,f⟩:=i o;refine ⟨_,L,p,.inr (by omega),by simp,λ_=>by omega,d,t,λw=>?_⟩;have f:=f w;rw [g];have s:=run_sliceBound (P:=P) w k m n (if isSlice=true then .sliceAcap else .sliceAlen) g0 q;simp only [Instr.sliceBounds,ax,aC,az,uz,bq,aE,s];cases b:lo.map a.eval with
  | none=>rw [b] at f;simp only [aC,uU,vt] at f;simp [f]
  | some v=>rw [b] at f;simp only [] at f;simp [f]
section ops
variable {α:Type} {ι:Inj} {s:St} {a:Act} {w:World} {f:Nat} {o:Oper} {c:Eff->Option α} {z:α}
theorem Lu {t:TypeId} {x:Operand} (C:o.op=.load t x) (E:TR ι s.T a.tmps) (D:WR ι s.H s.nb w) (h:effK P (opd s.T) s.H f (.load t x) c=some z):
  ∃e,c e=some z/\fK P ι f o a w e:=by
 simp only [effK] at h;split at h
 ·rename_i b off B;split at h
  ·rename_i blk n;obtain ⟨v,X,r,p,J,A,u⟩:=Ez D n h;have g:=bh E B;simp only [VR] at g;obtain ⟨N,d,m⟩:=g;rw [J] at d;cases d;exact ⟨_,p,.val (by simp only [execOp,C,m,ax,A,az,aC]) u⟩
  ·cases h
 ·rename_i U b j off B;split at h
  case h_2=>cases h
  rename_i tr l n;split at h
  case h_2=>cases h
  rename_i y;have y:=bm y;subst y;obtain ⟨F,I,h⟩:=av h;have g:=bh E B;simp only [VR] at g;obtain ⟨q,d,m⟩:=g;rcases ip D n with ⟨S,O,e,fr,i,L,Q,R,V,K,W⟩ | ⟨i,_⟩
  ·rw [d] at i;cases i;obtain ⟨G,Y⟩:=NA K I;have M:l.length*tr.length<=q.k*tr.length:=mc _ (by omega);rw [<-gh] at m;obtain ⟨v,X,p,A,u⟩:=La (o:=off) L (by rw [jx,G];exact (kA ι tr F _).2 rfl) (by rw [jx];omega) h;exact ⟨_,p,.val (by simp only [execOp,C,m,ax,A,az,aC]) u⟩
  ·rw [d] at i;cases i
 ·cases h
theorem HI {t:TypeId} {x y:Operand} (R:o.op=.store t x y) (B:TR ι s.T a.tmps) (S:WR ι s.H s.nb w) (h:effK P (opd s.T) s.H f (.store t x y) c=some z):
  ∃e,c e=some z/\fK P ι f o a w e:=by
 simp only [effK] at h;split at h
 ·rename_i b off O;obtain ⟨v,L,h⟩:=av h;split at h
  ·rename_i blk D;obtain ⟨W,I,r,g,K,G,E⟩:=Hy S D (bh B L) h;have n:=bh B O;simp only [VR] at n;obtain ⟨r',d,A⟩:=n;rw [K] at d;cases d;refine ⟨_,g,?_⟩;unfold fK;exact ⟨r,K,λ_=>⟨I,.skip,by simp only [execOp,R,A,ax,G,az,aC],E,.skip rfl⟩⟩
  ·cases h
 ·rename_i zz b j off O;obtain ⟨v,L,V⟩:=av h;clear h;have h:=V;clear V;split at h
  case h_2=>cases h
  rename_i tr l D;split at h
  case h_2=>cases h
  rename_i m;have m:=bm m;subst m;obtain ⟨xr,F,h⟩:=av h;have n:=bh B O;simp only [VR] at n;obtain ⟨q,d,A⟩:=n;rcases ip S D with ⟨q',Q,e,fr,p,g2,Y,Z,g5,U,g7⟩ | ⟨p,_⟩
  ·rw [d] at p;cases p;obtain ⟨r1,r2⟩:=NA U F;have hle:l.length*tr.length<=q.k*tr.length:=mc _ (by omega);rw [<-gh] at A;obtain ⟨l',X,g,K,G,E⟩:=Ir (o:=off) (fr:=fr) g2 (by rw [jx,r1];exact (kA ι tr xr _).2 rfl) (by rw [jx];omega) (bh B L) h;simp only at g;obtain ⟨C,N,g⟩:=av g;have hX:X=vals tr C:=(kA ι tr C X).1 (by rw [<-tH N];exact G);subst hX;have M:j<l.length:=by
    rcases aF j l.length with J | J
    ·exact J
    ·rw [fU J] at F;cases F
   have u:(splA Q (q.o+j*tr.length) (vals tr C)).size=Q.size:=tX (by rw [i6];omega);refine ⟨_,g,?_⟩;unfold fK;refine ⟨q,d,λm=>?_⟩;have i:=g7.resolve_left (by rw [m];simp);refine ⟨_,.skip,by simp only [execOp,R,A,ax,E i,az,aC];rfl,⟨_,e,fr,rfl,by rw [List.length_set];exact Y,Z,by rw [u];exact g5,?_,.inr (by rw [u];exact i)⟩,.skip rfl⟩;exact Ly (by omega) U C M
  ·rw [d] at p;cases p
 ·cases h
theorem I1 {t:TypeId} (g:o.op=.alloc t) (h:effK P (opd s.T) s.H f (.alloc t) c=some z):∃e,c e=some z/\fK P ι f o a w e:=by
 simp only [effK] at h;obtain ⟨v,j,h⟩:=av h;obtain ⟨x,i,l,k,d,b⟩:=sY (upd ι f (some (Rf.of w.heap.size (0) (0)))) j;refine ⟨_,h,.mk (x:=.pointer (some ⟨w.heap.size,0,none⟩)) (ob:=.cells x.cells t) ?_ (E2 (Oo d) t) ?_⟩
 ·simp only [execOp,g,Instr.alloc,ax,b,az,newVar,newRow,vC,aC,uG]
 ·simp only [VR];exact ⟨_,cX _ _ _,rfl⟩
theorem PU {t:TypeId} {x:Operand} (g:o.op=.box t x) (d:TR ι s.T a.tmps) (b:ι f=none) (h:effK P (opd s.T) s.H f (.box t x) c=some z):
  ∃e,c e=some z/\fK P ι f o a w e:=by
 simp only [effK] at h;obtain ⟨v,i,h⟩:=av h;have hv':=bh d i;refine ⟨_,h,.mk (x:=.pointer (some ⟨w.heap.size,0,none⟩)) (ob:=.cells (a.eval x).cells t) ?_ (E2 (VR.mono (m8 b) _ _ hv') t) ?_⟩
 ·simp only [execOp,g,Instr.box,ax,az,newVar,newRow,vC,aC,uG]
 ·simp only [VR];exact ⟨_,cX _ _ _,rfl⟩
theorem F7 (a:List Field) (h:(a.all λfd=>Nat.blt 0 (P.cellsOf fd.type))=true) (w:World):
  (a.mapM λ(f:Field)=>do pure (f.offset,<-sizeOf f.type)).run P w=.ok (Ai P a) w:=by
 induction a with
 | nil=>rfl
 | cons fd a ih=>
  simp only [kR,aA] at h;obtain ⟨i,hi⟩:=bM h.1;have ih:=ih h.2;simp only [xO,ax,fb hi,az,aC,ih];rfl
theorem I6 {t:TypeId} {g:Array (Nat×Operand)} (D:o.op=.build t g) (K:TR ι s.T a.tmps) (h:effK P (opd s.T) s.H f (.build t g) c=some z):
  ∃e,c e=some z/\fK P ι f o a w e:=by
 simp only [effK] at h;obtain ⟨O,v,h⟩:=av h;obtain ⟨C,L,h⟩:=av h;obtain ⟨x,i,N,Q,I,E⟩:=sY ι v;obtain ⟨F,G⟩:=rR K _ _ L;have k:=lq I;have q:(g.map λ(i,x)=>(i,a.eval x)).toList=g.toList.map λ(i,x)=>(i,a.eval x):=by simp
 split at h
 ·rename_i m A;split at h
  ·rename_i p;obtain ⟨l,y,h⟩:=av h;obtain ⟨r,b,d⟩:=tA _ _ (g.toList.map λ(i,x)=>(i,a.eval x)) _ _ _ k F (by simp [VRs]) G y;refine ⟨_,h,.val (x:=.agg r) ?_ (by simp only [VR];exact ⟨r,rfl,d⟩)⟩;have J:(m.mapM λ(f:Field)=>do pure (f.offset,<-sizeOf f.type)).run P w=.ok (Ai P m.toList).toArray w:=by
    rw [NH];simp only [Sem.run_map,F7 m.toList p,az]
   have u:(λ(i:Nat)=>(Ai P m.toList).toArray[i]?)=λ(i:Nat)=>(Ai P m.toList)[i]?:=by
    funext i;simp
   simp only [execOp,D,Instr.build,ax,E,az,aS A,J,u,q,b,aC]
  ·cases h
 ·rename_i n e A;split at h
  ·rename_i j;obtain ⟨M,B⟩:=bM j;obtain ⟨l,y,h⟩:=av h;obtain ⟨r,b,d⟩:=tA _ _ (g.toList.map λ(i,x)=>(i,a.eval x)) _ _ _ k F (by simp [VRs]) G y;refine ⟨_,h,.val (x:=.agg r) ?_ (nH d)⟩;simp only [execOp,D,Instr.build,ax,E,az,aS A,fb B,q,b,aC]
  ·cases h
 ·cases h
theorem vD (l:List V):∀n,(yv l n).length=n*l.length
 | 0=>by simp [yv]
 | n+1=>by simp [yv,vD l n,fV,nB]
theorem K5 {ι:Inj} {l:List V} {a:Array Value} (h:VRs ι l a.toList) (o:0<l.length):∀n,VRs ι (yv l n) ((Array.range (n*l.length)).map (a[·%a.size]!)).toList:=by
 have b:a.size=l.length:=by simpa using h.length
 intro n;refine VRs.of_get (by simp [vD]) λj v x d i=>?_;have key:∀n j v,(yv l n)[j]?=some v->l[j%l.length]?=some v:=by
  intro n
  induction n with
  | zero=>intro j v h;simp [yv] at h
  | succ n ih=>
   intro j v h;simp only [yv] at h;by_cases c:j<l.length
   ·rw [lJ c] at h;rw [od c];exact h
   ·rw [nT (by omega)] at h;have:=ih _ _ h;rwa [<-Nat.mod_eq_sub_mod (by omega)] at this
 have p:=key n j v d;obtain ⟨y,m,f⟩:=h.get p;have e:j<n*l.length:=by
  rcases aF j (n*l.length) with g | g
  ·exact g
  ·rw [fU (by rw [vD];omega)] at d;cases d
 have k:j%l.length<a.size:=by rw [b];exact qz _ o
 have:x=a[j%a.size]! := by
  simp [e] at i;exact i.symm
 rw [this,b];have hy':a[j%l.length]?=some y:=by simpa using m
 have:a[j%l.length]! = y:=by
  rw [getElem!_def,hy']
 rw [this];exact f
theorem vT {t e:TypeId} {n:Nat} {zc:Value} {i:TypeInfo} {g:Array (Nat×Value)} {h:Array Value} {w:World} (j:P.underlying t=some (.slice e)) (hi:P.info? e=some i)
  (d:n*P.cellsOf e<=1000) (k:∀w,(zeroValue e).run P w=.ok zc w)
  (a:Instr.fill (λi=>some (i*P.cellsOf e,P.cellsOf e)) ((Array.range (n*P.cellsOf e)).map (zc.cells[·%zc.cells.size]!)) g.toList=some h):
  (Instr.buildSlice t n g).run P w=.ok (.slice (some ⟨w.heap.size,0,none⟩) n n) (w.alloc (.cells h e)):=by
 have f:¬(n*P.cellsOf e>2 ^ 24):=Nat.not_lt.2 (oQ d (by decide));unfold Instr.buildSlice;simp only [ax,az,aS j,fb hi];rw [ab f];by_cases c:n*P.cellsOf e=0
 ·rw [ae c];have b:Array.range 0=#[]:=rfl;rw [c] at a ⊢;rw [b,EZ] at a;simp only [ax,aC,az,b,EZ,a,newRow,vC,uG]
 ·rw [ab c];simp only [ax,k,aC,az,a,newRow,vC,uG]
theorem vW {t:TypeId} {n:Nat} {v:Array (Nat×Operand)} (J:o.op=.buildSlice t n v) (W:TR ι s.T a.tmps) (Q:ι f=none) (h:effK P (opd s.T) s.H f (.buildSlice t n v) c=some z):
  ∃e,c e=some z/\fK P ι f o a w e:=by
 simp only [effK] at h;split at h
 ·rename_i e U;split at h
  ·rename_i K;simp only [aA] at K;obtain ⟨F,k⟩:=K;obtain ⟨Z,E⟩:=bM k;obtain ⟨zv,C,h⟩:=av h;obtain ⟨G,Y,h⟩:=av h;split at h
   ·rename_i b;have b:=bm b;obtain ⟨l,S,h⟩:=av h;obtain ⟨x,i,h1,h2,R,O⟩:=sY ι C;obtain ⟨V,X⟩:=rR W _ _ Y;have B:=lq R;have I:(v.map λ(i,x)=>(i,a.eval x)).toList=v.toList.map λ(i,x)=>(i,a.eval x):=by simp
    have hpos':0<P.cellsOf e:=aH k;have y:=K5 B (by omega) n;rw [b] at y;obtain ⟨u,g,j⟩:=tA _ _ (v.toList.map λ(i,x)=>(i,a.eval x)) _ _ _ y V (by simp [VRs]) X S;rw [<-I] at g;have p:=vT (w:=w) U E (aH F) O g;split at h
    ·rename_i tr N;split at h
     case h_2=>cases h
     rename_i A;simp only [aA,ia] at A;obtain ⟨M,L⟩:=A;obtain ⟨m,D,h⟩:=av h;obtain ⟨m1,m2⟩:=Bc D (by rw [L,M]);have r:u.size=n*tr.length:=by rw [M,<-L];simpa using j.length
     rw [m2] at j;refine ⟨_,h,.mkR (d:=w.drawn) (q:=(Rf.of w.heap.size (n) (n))) (x:=.slice (some ⟨w.heap.size,0,none⟩) n n) (ob:=.cells u e) ?_ rfl rfl
      ⟨u,e,(0,0),rfl,m1,aU _,by rw [r];simp,?_,.inr (qx _)⟩ ?_⟩
     ·simp only [execOp,J,ax,p,az,aC]
     ·rw [<-Dv ι m _ j,m1];simp only [cP];exact hZ (by rw [GB,r];exact aU _)
     ·simp only [VR];exact .inl ⟨_,cX _ _ _,rfl⟩
    ·refine ⟨_,h,.mk (x:=.slice (some ⟨w.heap.size,0,none⟩) n n) (ob:=.cells u e) ?_ ⟨u,e,(0,0),rfl,VRs.mono (m8 Q) _ _ j,qx _⟩ ?_⟩
     ·simp only [execOp,J,ax,p,az,aC]
     ·simp only [VR];exact ⟨_,n,cX _ _ _,λm D=>by simpa using D,aU _,rfl⟩
   ·cases h
  ·cases h
 ·cases h
theorem HV {t:TypeId} {x:Operand} (i:o.op=.range t x) (j:TR ι s.T a.tmps) (h:effK P (opd s.T) s.H f (.range t x) c=some z):
  ∃e,c e=some z/\fK P ι f o a w e:=by
 simp only [effK] at h;split at h
 ·rename_i d;split at h
  ·rename_i l g;have b:=bh j g;simp only [VR] at b;refine ⟨_,h,.mk (x:=.pointer (some ⟨w.heap.size,0,none⟩)) (ob:=.stringIter ⟨l.toArray⟩ 0) ?_ rfl (by simp only [VR];exact ⟨_,cX _ _ _,rfl⟩)⟩;simp only [execOp,i,Instr.range,ax,az,aS d,b,aC,vC,uG]
  ·cases h
 ·cases h
end ops
end Go.Abs
