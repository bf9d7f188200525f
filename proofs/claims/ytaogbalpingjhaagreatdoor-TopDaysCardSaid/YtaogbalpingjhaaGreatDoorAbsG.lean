
/- The abstract effect of an operation is what the model's own operation does: all operations but calls of Go functions.
   Conditions: none; generic over the program. -/
import Derived.Test.YtaogbalpingjhaaGreatDoorAbsF
set_option linter.unusedSimpArgs false
set_option linter.unusedVariables false
namespace Go.Abs
variable {P:Program}
theorem kM (o j:Nat):padd o j=o+j:=by
 unfold padd;cases h:Nat.beq o 0 with
 | true=>have:o=0:=aS h;simp [this]
 | false=>rfl
theorem rK (j s:Nat):pmul j s=j*s:=by
 unfold pmul;cases h:Nat.beq s 1 with
 | true=>have:s=1:=aS h;simp [this]
 | false=>rfl
theorem jX {n j:Nat} {i:Int} (h:ix n i=some j):0<=i/\i<n/\j=i.toNat:=by
 unfold ix at h;split at h
 ·rename_i hc;simp only [ae] at h;exact ⟨hc.1,hc.2,h.symm⟩
 ·cases h
theorem gW {n j:Nat} {i:Int} (h:bx n i=some j):0<=i/\i<=n/\j=i.toNat:=by
 unfold bx at h;split at h
 ·rename_i hc;simp only [ae] at h;exact ⟨hc.1,hc.2,h.symm⟩
 ·cases h
theorem kn {ι:Inj} {T:List (Nat×Option V)} {a:Act} (b:TR ι T a.tmps) {x:Option Operand} {l:Option Int} (h:lX (opd T) x=some l):
  (l=none/\x.map a.eval=none)\/∃k n,l=some n/\x.map a.eval=some (.int k n):=by
 unfold lX at h;split at h
 ·simp only [ae] at h;subst h;exact .inl ⟨rfl,rfl⟩
 ·split at h
  ·rename_i k n c;simp only [ae] at h;subst h;have:=aP b c;simp only [VR] at this;exact .inr ⟨k,n,rfl,by simp [this]⟩
  ·cases h
theorem qA {α:Type} {ι:Inj} {T:List (Nat×Option V)} {a:Act} (r:TR ι T a.tmps) {lo hi:Option Operand} {l h:Option Int} (x:lX (opd T) lo=some l)
  (u:lX (opd T) hi=some h) {n len:Nat} {isSlice:Bool} {c:Nat->Nat->Option α} {z:α} (e:(hiK n len h λh=>loK h l λl=>c h l)=some z):
  ∃H L,c H L=some z/\(h=none\/H<=n)/\(h=none->H=len)/\(h≠none->H<=n)/\L<=H/\(l=none->L=0)/\
   ∀w,(Instr.sliceBounds isSlice len n (lo.map a.eval) (hi.map a.eval) none).run P w=.ok (L,H,n) w:=by
 have j:∀{H:Nat},loK H l (c H)=some z->∃L,c H L=some z/\L<=H/\(l=none->L=0)/\
   ∀w,(match lo.map a.eval with | some v=>Instr.sliceBound v H .sliceB | none=>pure 0).run P w=.ok L w:=by
  intro H e;rcases kn r x with ⟨rfl,g⟩ | ⟨k,m,rfl,g⟩
  ·exact ⟨0,e,mQ _,λ_=>rfl,λw=>by rw [g];rfl⟩
  ·simp only [loK] at e;obtain ⟨L,o,i⟩:=ah e;obtain ⟨g0,p,rfl⟩:=gW o;exact ⟨_,i,by omega,by simp,λw=>by rw [g];exact run_sliceBound w k m H .sliceB g0 p⟩
 rcases kn r u with ⟨rfl,g⟩ | ⟨k,m,rfl,g⟩
 ·simp only [hiK] at e;obtain ⟨L,o,i,q,d⟩:=j e;refine ⟨len,L,o,.inl rfl,λ_=>rfl,by simp,i,q,λw=>?_⟩;have d:=d w;rw [g];simp only [Instr.sliceBounds,ak,au,aq,qG,bT,aE];cases b:lo.map a.eval with
  | none=>rw [b] at d;simp only [au,ri,and_true] at d;simp [d]
  | some v=>rw [b] at d;simp only [] at d;simp [d]
 ·simp only [hiK] at e;obtain ⟨H,o,i⟩:=ah e;obtain ⟨g0,p,rfl⟩:=gW o;obtain ⟨L,q,d,s,f⟩:=j i;refine ⟨_,L,q,.inr (by omega),by simp,λ_=>by omega,d,s,λw=>?_⟩;have f:=f w;rw [g];have t:=run_sliceBound (P:=P) w k m n (if isSlice=true then .sliceAcap else .sliceAlen) g0 p;simp only [Instr.sliceBounds,ak,au,aq,qG,bT,aE,t];cases b:lo.map a.eval with
  | none=>rw [b] at f;simp only [au,ri,and_true] at f;simp [f]
  | some v=>rw [b] at f;simp only [] at f;simp [f]
section ops
variable {α:Type} {ι:Inj} {s:St} {a:Act} {w:World} {f:Nat} {o:Oper} {c:Eff->Option α} {z:α}
theorem EI {t:TypeId} {x:Operand} (E:o.op=.load t x) (C:TR ι s.T a.tmps) (D:WR ι s.H s.nb w) (h:effK P (opd s.T) s.H f (.load t x) c=some z):
  ∃e,c e=some z/\dt P ι f o a w e:=by
 simp only [effK] at h;split at h
 ·rename_i b off B;split at h
  ·rename_i blk n;obtain ⟨v,X,r,A,J,u,y⟩:=yZ D n h;have g:=aP C B;simp only [VR] at g;obtain ⟨Y,i,m⟩:=g;rw [J] at i;cases i;exact ⟨_,A,.val (by simp only [execOp,E,m,ak,u,aq,au]) y⟩
  ·cases h
 ·rename_i U b j off B;split at h
  case h_2=>cases h
  rename_i tr l n;split at h
  case h_2=>cases h
  rename_i p;have p:=aS p;subst p;obtain ⟨G,M,h⟩:=ah h;have g:=aP C B;simp only [VR] at g;obtain ⟨q,i,m⟩:=g;rcases fa D n with ⟨Q,N,e,fr,d,F,S,O,R,K,W⟩ | ⟨d,_⟩
  ·rw [i] at d;cases d;obtain ⟨I,V⟩:=Gj K M;have L:l.length*tr.length<=q.k*tr.length:=jV _ (by omega);rw [<-fN] at m;obtain ⟨v,X,A,u,y⟩:=D7 (o:=off) F (by rw [gu,I];exact (ip ι tr G _).2 rfl) (by rw [gu];omega) h;exact ⟨_,A,.val (by simp only [execOp,E,m,ak,u,aq,au]) y⟩
  ·rw [i] at d;cases d
 ·cases h
theorem AL {t:TypeId} {x y:Operand} (V:o.op=.store t x y) (A:TR ι s.T a.tmps) (S:WR ι s.H s.nb w) (h:effK P (opd s.T) s.H f (.store t x y) c=some z):
  ∃e,c e=some z/\dt P ι f o a w e:=by
 simp only [effK] at h;split at h
 ·rename_i b off O;obtain ⟨v,E,h⟩:=ah h;split at h
  ·rename_i blk F;obtain ⟨W,G,r,d,K,I,J⟩:=BJ S F (aP A E) h;have u:=aP A O;simp only [VR] at u;obtain ⟨r',g,B⟩:=u;rw [K] at g;cases g;refine ⟨_,d,?_⟩;unfold dt;exact ⟨r,K,λ_=>⟨G,.skip,by simp only [execOp,V,B,ak,I,aq,au],J,.skip rfl⟩⟩
  ·cases h
 ·rename_i zz b j off O;obtain ⟨v,E,R⟩:=ah h;clear h;have h:=R;clear R;split at h
  case h_2=>cases h
  rename_i tr l F;split at h
  case h_2=>cases h
  rename_i p;have p:=aS p;subst p;obtain ⟨xr,N,h⟩:=ah h;have u:=aP A O;simp only [VR] at u;obtain ⟨q,g,B⟩:=u;rcases fa S F with ⟨q',Q,e,fr,m,Z,g3,Y,g5,U,g7⟩ | ⟨m,_⟩
  ·rw [g] at m;cases m;obtain ⟨r1,r2⟩:=Gj U N;have hle:l.length*tr.length<=q.k*tr.length:=jV _ (by omega);rw [<-fN] at B;obtain ⟨l',X,d,K,I,J⟩:=C9 (o:=off) (fr:=fr) Z (by rw [gu,r1];exact (ip ι tr xr _).2 rfl) (by rw [gu];omega) (aP A E) h;simp only at d;obtain ⟨C,M,d⟩:=ah d;have hX:X=vals tr C:=(ip ι tr C X).1 (by rw [<-pI M];exact I);subst hX;have L:j<l.length:=by
    rcases aA j l.length with D | D
    ·exact D
    ·rw [dx D] at N;cases N
   have i:(splA Q (q.o+j*tr.length) (vals tr C)).size=Q.size:=qW (by rw [fK];omega);refine ⟨_,d,?_⟩;unfold dt;refine ⟨q,g,λp=>?_⟩;have n:=g7.resolve_left (by rw [p];simp);refine ⟨_,.skip,by simp only [execOp,V,B,ak,J n,aq,au];rfl,⟨_,e,fr,rfl,by rw [List.length_set];exact g3,Y,by rw [i];exact g5,?_,.inr (by rw [i];exact n)⟩,.skip rfl⟩;exact Ed (by omega) U C L
  ·rw [g] at m;cases m
 ·cases h
theorem DT {t:TypeId} (j:o.op=.alloc t) (h:effK P (opd s.T) s.H f (.alloc t) c=some z):∃e,c e=some z/\dt P ι f o a w e:=by
 simp only [effK] at h;obtain ⟨v,d,h⟩:=ah h;obtain ⟨x,i,k,l,b,g⟩:=pW (upd ι f (some (Rf.of w.heap.size (0) (0)))) d;refine ⟨_,h,.mk (x:=.pointer (some ⟨w.heap.size,0,none⟩)) (ob:=.cells x.cells t) ?_ (ym (H6 b) t) ?_⟩
 ·simp only [execOp,j,Instr.alloc,ak,g,aq,newVar,newRow,rY,au,rX]
 ·simp only [VR];exact ⟨_,bK _ _ _,rfl⟩
theorem Ib {t:TypeId} {x:Operand} (b:o.op=.box t x) (d:TR ι s.T a.tmps) (g:ι f=none) (h:effK P (opd s.T) s.H f (.box t x) c=some z):
  ∃e,c e=some z/\dt P ι f o a w e:=by
 simp only [effK] at h;obtain ⟨v,i,h⟩:=ah h;have hv':=aP d i;refine ⟨_,h,.mk (x:=.pointer (some ⟨w.heap.size,0,none⟩)) (ob:=.cells (a.eval x).cells t) ?_ (ym (VR.mono (kW g) _ _ hv') t) ?_⟩
 ·simp only [execOp,b,Instr.box,ak,aq,newVar,newRow,rY,au,rX]
 ·simp only [VR];exact ⟨_,bK _ _ _,rfl⟩
theorem zC (a:List Field) (h:(a.all λfd=>Nat.blt 0 (P.cellsOf fd.type))=true) (w:World):
  (a.mapM λ(f:Field)=>do pure (f.offset,<-sizeOf f.type)).run P w=.ok (wj P a) w:=by
 induction a with
 | nil=>rfl
 | cons fd a ih=>
  simp only [kg,av] at h;obtain ⟨i,hi⟩:=bg h.1;have ih:=ih h.2;simp only [xI,ak,db hi,aq,au,ih];rfl
theorem Ao {t:TypeId} {g:Array (Nat×Operand)} (G:o.op=.build t g) (I:TR ι s.T a.tmps) (h:effK P (opd s.T) s.H f (.build t g) c=some z):
  ∃e,c e=some z/\dt P ι f o a w e:=by
 simp only [effK] at h;obtain ⟨N,B,h⟩:=ah h;obtain ⟨y,L,h⟩:=ah h;obtain ⟨x,i,Q,O,K,F⟩:=pW ι B;obtain ⟨D,E⟩:=o7 I _ _ L;have q:=jd K;have p:(g.map λ(i,x)=>(i,a.eval x)).toList=g.toList.map λ(i,x)=>(i,a.eval x):=by simp
 split at h
 ·rename_i k u;split at h
  ·rename_i j;obtain ⟨l,A,h⟩:=ah h;obtain ⟨r,b,d⟩:=pS _ _ (g.toList.map λ(i,x)=>(i,a.eval x)) _ _ _ q D (by simp [VRs]) E A;refine ⟨_,h,.val (x:=.agg r) ?_ (by simp only [VR];exact ⟨r,rfl,d⟩)⟩;have J:(k.mapM λ(f:Field)=>do pure (f.offset,<-sizeOf f.type)).run P w=.ok (wj P k.toList).toArray w:=by
    rw [Gv];simp only [Sem.run_map,zC k.toList j,aq]
   have C:(λ(i:Nat)=>(wj P k.toList).toArray[i]?)=λ(i:Nat)=>(wj P k.toList)[i]?:=by
    funext i;simp
   simp only [execOp,G,Instr.build,ak,F,aq,aH u,J,C,p,b,au]
  ·cases h
 ·rename_i n e u;split at h
  ·rename_i m;obtain ⟨M,v⟩:=bg m;obtain ⟨l,A,h⟩:=ah h;obtain ⟨r,b,d⟩:=pS _ _ (g.toList.map λ(i,x)=>(i,a.eval x)) _ _ _ q D (by simp [VRs]) E A;refine ⟨_,h,.val (x:=.agg r) ?_ (kV d)⟩;simp only [execOp,G,Instr.build,ak,F,aq,aH u,db v,p,b,au]
  ·cases h
 ·cases h
theorem rh (l:List V):∀n,(ts l n).length=n*l.length
 | 0=>by simp [ts]
 | n+1=>by simp [ts,rh l n,dB,oq]
theorem EE {ι:Inj} {l:List V} {a:Array Value} (h:VRs ι l a.toList) (p:0<l.length):∀n,VRs ι (ts l n) ((Array.range (n*l.length)).map (a[·%a.size]!)).toList:=by
 have b:a.size=l.length:=by simpa using h.length
 intro n;refine VRs.of_get (by simp [rh]) λj v x f k=>?_;have key:∀n j v,(ts l n)[j]?=some v->l[j%l.length]?=some v:=by
  intro n
  induction n with
  | zero=>intro j v h;simp [ts] at h
  | succ n ih=>
   intro j v h;simp only [ts] at h;by_cases c:j<l.length
   ·rw [jl c] at h;rw [nh c];exact h
   ·rw [la (by omega)] at h;have:=ih _ _ h;rwa [<-Nat.mod_eq_sub_mod (by omega)] at this
 have o:=key n j v f;obtain ⟨y,m,d⟩:=h.get o;have e:j<n*l.length:=by
  rcases aA j (n*l.length) with g | g
  ·exact g
  ·rw [dx (by rw [rh];omega)] at f;cases f
 have i:j%l.length<a.size:=by rw [b];exact na _ p
 have:x=a[j%a.size]! := by
  simp [e] at k;exact k.symm
 rw [this,b];have hy':a[j%l.length]?=some y:=by simpa using m
 have:a[j%l.length]! = y:=by
  rw [getElem!_def,hy']
 rw [this];exact d
theorem sc {t e:TypeId} {n:Nat} {zc:Value} {i:TypeInfo} {g:Array (Nat×Value)} {h:Array Value} {w:World} (k:P.underlying t=some (.slice e)) (hi:P.info? e=some i)
  (c:n*P.cellsOf e<=1000) (j:∀w,(zeroValue e).run P w=.ok zc w)
  (a:Instr.fill (λi=>some (i*P.cellsOf e,P.cellsOf e)) ((Array.range (n*P.cellsOf e)).map (zc.cells[·%zc.cells.size]!)) g.toList=some h):
  (Instr.buildSlice t n g).run P w=.ok (.slice (some ⟨w.heap.size,0,none⟩) n n) (w.alloc (.cells h e)):=by
 have f:¬(n*P.cellsOf e>2 ^ 24):=Nat.not_lt.2 (mT c (by decide));unfold Instr.buildSlice;simp only [ak,aq,aH k,db hi];rw [ab f];by_cases d:n*P.cellsOf e=0
 ·rw [ad d];have b:Array.range 0=#[]:=rfl;rw [d] at a ⊢;rw [b,zr] at a;simp only [ak,au,aq,b,zr,a,newRow,rY,rX]
 ·rw [ab d];simp only [ak,j,au,aq,a,newRow,rY,rX]
theorem si {t:TypeId} {n:Nat} {A:Array (Nat×Operand)} (L:o.op=.buildSlice t n A) (O:TR ι s.T a.tmps) (U:ι f=none) (h:effK P (opd s.T) s.H f (.buildSlice t n A) c=some z):
  ∃e,c e=some z/\dt P ι f o a w e:=by
 simp only [effK] at h;split at h
 ·rename_i e R;split at h
  ·rename_i J;simp only [av] at J;obtain ⟨I,p⟩:=J;obtain ⟨i',C⟩:=bg p;obtain ⟨zv,G,h⟩:=ah h;obtain ⟨D,hp,h⟩:=ah h;split at h
   ·rename_i g;have g:=aS g;obtain ⟨l,Y,h⟩:=ah h;obtain ⟨x,i,h1,h2,V,X⟩:=pW ι G;obtain ⟨Q,W⟩:=o7 O _ _ hp;have F:=jd V;have E:(A.map λ(i,x)=>(i,a.eval x)).toList=A.toList.map λ(i,x)=>(i,a.eval x):=by simp
    have hpos':0<P.cellsOf e:=ax p;have y:=EE F (by omega) n;rw [g] at y;obtain ⟨u,b,j⟩:=pS _ _ (A.toList.map λ(i,x)=>(i,a.eval x)) _ _ _ y Q (by simp [VRs]) W Y;rw [<-E] at b;have k:=sc (w:=w) R C (ax I) X b;split at h
    ·rename_i tr S;split at h
     case h_2=>cases h
     rename_i v;simp only [av,eM] at v;obtain ⟨N,K⟩:=v;obtain ⟨m,B,h⟩:=ah h;obtain ⟨M,Z⟩:=uM B (by rw [K,N]);have r:u.size=n*tr.length:=by rw [N,<-K];simpa using j.length
     rw [Z] at j;refine ⟨_,h,.mkR (d:=w.drawn) (q:=(Rf.of w.heap.size (n) (n))) (x:=.slice (some ⟨w.heap.size,0,none⟩) n n) (ob:=.cells u e) ?_ rfl rfl
      ⟨u,e,(0,0),rfl,M,aL _,by rw [r];simp,?_,.inr (m6 _)⟩ ?_⟩
     ·simp only [execOp,L,ak,k,aq,au]
     ·rw [<-zg ι m _ j,M];simp only [ie];exact fO (by rw [CM,r];exact aL _)
     ·simp only [VR];exact .inl ⟨_,bK _ _ _,rfl⟩
    ·refine ⟨_,h,.mk (x:=.slice (some ⟨w.heap.size,0,none⟩) n n) (ob:=.cells u e) ?_ ⟨u,e,(0,0),rfl,VRs.mono (kW U) _ _ j,m6 _⟩ ?_⟩
     ·simp only [execOp,L,ak,k,aq,au]
     ·simp only [VR];exact ⟨_,n,bK _ _ _,λm B=>by simpa using B,aL _,rfl⟩
   ·cases h
  ·cases h
 ·cases h
theorem AQ {t:TypeId} {x:Operand} (g:o.op=.range t x) (d:TR ι s.T a.tmps) (h:effK P (opd s.T) s.H f (.range t x) c=some z):
  ∃e,c e=some z/\dt P ι f o a w e:=by
 simp only [effK] at h;split at h
 ·rename_i i;split at h
  ·rename_i l j;have b:=aP d j;simp only [VR] at b;refine ⟨_,h,.mk (x:=.pointer (some ⟨w.heap.size,0,none⟩)) (ob:=.stringIter ⟨l.toArray⟩ 0) ?_ rfl (by simp only [VR];exact ⟨_,bK _ _ _,rfl⟩)⟩;simp only [execOp,g,Instr.range,ak,aq,aH i,b,au,rY,rX]
  ·cases h
 ·cases h
end ops
end Go.Abs
