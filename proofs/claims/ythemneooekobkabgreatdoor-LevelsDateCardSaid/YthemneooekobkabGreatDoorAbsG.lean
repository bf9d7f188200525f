
/- The abstract effect of an operation is what the model's own operation does: all operations but calls of Go functions.
   Conditions: none; generic over the program. -/
import Derived.Test.YthemneooekobkabGreatDoorAbsF
set_option linter.unusedSimpArgs false
set_option linter.unusedVariables false
namespace Go.Abs
variable {P:Program}
theorem qi (o j:Nat):padd o j=o+j:=by
 unfold padd;cases h:Nat.beq o 0 with
 | true=>have:o=0:=bC h;simp [this]
 | false=>rfl
theorem xe (j s:Nat):pmul j s=j*s:=by
 unfold pmul;cases h:Nat.beq s 1 with
 | true=>have:s=1:=bC h;simp [this]
 | false=>rfl
theorem oK {n j:Nat} {i:Int} (h:ix n i=some j):0<=i/\i<n/\j=i.toNat:=by
 unfold ix at h;split at h
 ·rename_i hc;simp only [av] at h;exact ⟨hc.1,hc.2,h.symm⟩
 ·cases h
theorem ly {n j:Nat} {i:Int} (h:bx n i=some j):0<=i/\i<=n/\j=i.toNat:=by
 unfold bx at h;split at h
 ·rename_i hc;simp only [av] at h;exact ⟨hc.1,hc.2,h.symm⟩
 ·cases h
theorem oQ {ι:Inj} {T:List (Nat×Option V)} {a:Act} (b:TR ι T a.tmps) {x:Option Operand} {l:Option Int} (h:rf (opd T) x=some l):
  (l=none/\x.map a.eval=none)\/∃k n,l=some n/\x.map a.eval=some (.int k n):=by
 unfold rf at h;split at h
 ·simp only [av] at h;subst h;exact .inl ⟨rfl,rfl⟩
 ·split at h
  ·rename_i k n c;simp only [av] at h;subst h;have:=bA b c;simp only [VR] at this;exact .inr ⟨k,n,rfl,by simp [this]⟩
  ·cases h
theorem xY {α:Type} {ι:Inj} {T:List (Nat×Option V)} {a:Act} (r:TR ι T a.tmps) {lo hi:Option Operand} {l h:Option Int} (s:rf (opd T) lo=some l)
  (x:rf (opd T) hi=some h) {n len:Nat} {isSlice:Bool} {c:Nat->Nat->Option α} {z:α} (f:(hiK n len h λh=>loK h l λl=>c h l)=some z):
  ∃H L,c H L=some z/\(h=none\/H<=n)/\(h=none->H=len)/\(h≠none->H<=n)/\L<=H/\(l=none->L=0)/\
   ∀w,(Instr.sliceBounds isSlice len n (lo.map a.eval) (hi.map a.eval) none).run P w=.ok (L,H,n) w:=by
 have j:∀{H:Nat},loK H l (c H)=some z->∃L,c H L=some z/\L<=H/\(l=none->L=0)/\
   ∀w,(match lo.map a.eval with | some v=>Instr.sliceBound v H .sliceB | none=>pure 0).run P w=.ok L w:=by
  intro H f;rcases oQ r s with ⟨rfl,g⟩ | ⟨k,m,rfl,g⟩
  ·exact ⟨0,f,jI _,λ_=>rfl,λw=>by rw [g];rfl⟩
  ·simp only [loK] at f;obtain ⟨L,i,o⟩:=aw f;obtain ⟨g0,p,rfl⟩:=ly i;exact ⟨_,o,by omega,by simp,λw=>by rw [g];exact run_sliceBound w k m H .sliceB g0 p⟩
 rcases oQ r x with ⟨rfl,g⟩ | ⟨k,m,rfl,g⟩
 ·simp only [hiK] at f;obtain ⟨L,i,o,q,d⟩:=j f;refine ⟨len,L,i,.inl rfl,λ_=>rfl,by simp,o,q,λw=>?_⟩;have d:=d w;rw [g];simp only [Instr.sliceBounds,ax,aD,az,yk,bw,aC];cases b:lo.map a.eval with
  | none=>rw [b] at d;simp only [aD,xj,xd] at d;simp [d]
  | some v=>rw [b] at d;simp only [] at d;simp [d]
 ·simp only [hiK] at f;obtain ⟨H,i,o⟩:=aw f;obtain ⟨g0,p,rfl⟩:=ly i;obtain ⟨L,q,d,u,e⟩:=j o;refine ⟨_,L,q,.inr (by omega),by simp,λ_=>by omega,d,u,λw=>?_⟩;have e:=e w;rw [g];have t:=run_sliceBound (P:=P) w k m n (if isSlice=true then .sliceAcap else .sliceAlen) g0 p;simp only [Instr.sliceBounds,ax,aD,az,yk,bw,aC,t];cases b:lo.map a.eval with
  | none=>rw [b] at e;simp only [aD,xj,xd] at e;simp [e]
  | some v=>rw [b] at e;simp only [] at e;simp [e]
section ops
variable {α:Type} {ι:Inj} {s:St} {a:Act} {w:World} {f:Nat} {o:Oper} {c:Eff->Option α} {z:α}
theorem Pe {t:TypeId} {x:Operand} (B:o.op=.load t x) (D:TR ι s.T a.tmps) (C:WR ι s.H s.nb w) (h:effK P (opd s.T) s.H f (.load t x) c=some z):
  ∃e,c e=some z/\gI P ι f o a w e:=by
 simp only [effK] at h;split at h
 ·rename_i b off hx;split at h
  ·rename_i blk n;obtain ⟨v,X,r,A,L,y,p⟩:=Hf C n h;have i:=bA D hx;simp only [VR] at i;obtain ⟨O,d,m⟩:=i;rw [L] at d;cases d;exact ⟨_,A,.val (by simp only [execOp,B,m,ax,y,az,aD]) p⟩
  ·cases h
 ·rename_i R b j off hx;split at h
  case h_2=>cases h
  rename_i tr l n;split at h
  case h_2=>cases h
  rename_i u;have u:=bC u;subst u;obtain ⟨I,J,h⟩:=aw h;have i:=bA D hx;simp only [VR] at i;obtain ⟨q,d,m⟩:=i;rcases jz C n with ⟨S,M,e,fr,g,E,U,W,Q,K,N⟩ | ⟨g,_⟩
  ·rw [d] at g;cases g;obtain ⟨G,V⟩:=Q0 K J;have F:l.length*tr.length<=q.k*tr.length:=oC _ (by omega);rw [<-ib] at m;obtain ⟨v,X,A,y,p⟩:=QO (o:=off) E (by rw [kR,G];exact (kO ι tr I _).2 rfl) (by rw [kR];omega) h;exact ⟨_,A,.val (by simp only [execOp,B,m,ax,y,az,aD]) p⟩
  ·rw [d] at g;cases g
 ·cases h
theorem MS {t:TypeId} {x y:Operand} (Q:o.op=.store t x y) (C:TR ι s.T a.tmps) (S:WR ι s.H s.nb w) (h:effK P (opd s.T) s.H f (.store t x y) c=some z):
  ∃e,c e=some z/\gI P ι f o a w e:=by
 simp only [effK] at h;split at h
 ·rename_i b off hx;obtain ⟨v,hy,h⟩:=aw h;split at h
  ·rename_i blk E;obtain ⟨N,M,r,g,L,I,G⟩:=K9 S E (bA C hy) h;have n:=bA C hx;simp only [VR] at n;obtain ⟨r',d,A⟩:=n;rw [L] at d;cases d;refine ⟨_,g,?_⟩;unfold gI;exact ⟨r,L,λ_=>⟨M,.skip,by simp only [execOp,Q,A,ax,I,az,aD],G,.skip rfl⟩⟩
  ·cases h
 ·rename_i zz b j off hx;obtain ⟨v,hy,R⟩:=aw h;clear h;have h:=R;clear R;split at h
  case h_2=>cases h
  rename_i tr l E;split at h
  case h_2=>cases h
  rename_i u;have u:=bC u;subst u;obtain ⟨xr,D,h⟩:=aw h;have n:=bA C hx;simp only [VR] at n;obtain ⟨q,d,A⟩:=n;rcases jz S E with ⟨q',O,e,fr,i,V,g3,g4,g5,U,W⟩ | ⟨i,_⟩
  ·rw [d] at i;cases i;obtain ⟨Z,r2⟩:=Q0 U D;have Y:l.length*tr.length<=q.k*tr.length:=oC _ (by omega);rw [<-ib] at A;obtain ⟨l',X,g,L,I,G⟩:=Nn (o:=off) (fr:=fr) V (by rw [kR,Z];exact (kO ι tr xr _).2 rfl) (by rw [kR];omega) (bA C hy) h;simp only at g;obtain ⟨B,F,g⟩:=aw g;have hX:X=vals tr B:=(kO ι tr B X).1 (by rw [<-wq F];exact I);subst hX;have J:j<l.length:=by
    rcases aH j l.length with K | K
    ·exact K
    ·rw [gU K] at D;cases D
   have p:(splA O (q.o+j*tr.length) (vals tr B)).size=O.size:=xc (by rw [jZ];omega);refine ⟨_,g,?_⟩;unfold gI;refine ⟨q,d,λu=>?_⟩;have m:=W.resolve_left (by rw [u];simp);refine ⟨_,.skip,by simp only [execOp,Q,A,ax,G m,az,aD];rfl,⟨_,e,fr,rfl,by rw [List.length_set];exact g3,g4,by rw [p];exact g5,?_,.inr (by rw [p];exact m)⟩,.skip rfl⟩;exact QP (by omega) U B J
  ·rw [d] at i;cases i
 ·cases h
theorem LW {t:TypeId} (j:o.op=.alloc t) (h:effK P (opd s.T) s.H f (.alloc t) c=some z):∃e,c e=some z/\gI P ι f o a w e:=by
 simp only [effK] at h;obtain ⟨v,b,h⟩:=aw h;obtain ⟨x,i,l,k,d,g⟩:=wg (upd ι f (some (Rf.of w.heap.size (0) (0)))) b;refine ⟨_,h,.mk (x:=.pointer (some ⟨w.heap.size,0,none⟩)) (ob:=.cells x.cells t) ?_ (IC (RR d) t) ?_⟩
 ·simp only [execOp,j,Instr.alloc,ax,g,az,newVar,newRow,yE,aD,xM]
 ·simp only [VR];exact ⟨_,dF _ _ _,rfl⟩
theorem SC {t:TypeId} {x:Operand} (b:o.op=.box t x) (i:TR ι s.T a.tmps) (g:ι f=none) (h:effK P (opd s.T) s.H f (.box t x) c=some z):
  ∃e,c e=some z/\gI P ι f o a w e:=by
 simp only [effK] at h;obtain ⟨v,d,h⟩:=aw h;have hv':=bA i d;refine ⟨_,h,.mk (x:=.pointer (some ⟨w.heap.size,0,none⟩)) (ob:=.cells (a.eval x).cells t) ?_ (IC (VR.mono (pT g) _ _ hv') t) ?_⟩
 ·simp only [execOp,b,Instr.box,ax,az,newVar,newRow,yE,aD,xM]
 ·simp only [VR];exact ⟨_,dF _ _ _,rfl⟩
theorem IX (a:List Field) (h:(a.all λfd=>Nat.blt 0 (P.cellsOf fd.type))=true) (w:World):
  (a.mapM λ(f:Field)=>do pure (f.offset,<-sizeOf f.type)).run P w=.ok (Dq P a) w:=by
 induction a with
 | nil=>rfl
 | cons fd a ih=>
  simp only [mO,aA] at h;obtain ⟨i,hi⟩:=ca h.1;have ih:=ih h.2;simp only [BJ,ax,gi hi,az,aD,ih];rfl
theorem M3 {t:TypeId} {g:Array (Nat×Operand)} (D:o.op=.build t g) (K:TR ι s.T a.tmps) (h:effK P (opd s.T) s.H f (.build t g) c=some z):
  ∃e,c e=some z/\gI P ι f o a w e:=by
 simp only [effK] at h;obtain ⟨L,u,h⟩:=aw h;obtain ⟨C,hp,h⟩:=aw h;obtain ⟨x,i,O,N,J,F⟩:=wg ι u;obtain ⟨G,E⟩:=vi K _ _ hp;have m:=nF J;have k:(g.map λ(i,x)=>(i,a.eval x)).toList=g.toList.map λ(i,x)=>(i,a.eval x):=by simp
 split at h
 ·rename_i j v;split at h
  ·rename_i q;obtain ⟨l,B,h⟩:=aw h;obtain ⟨r,b,d⟩:=wj _ _ (g.toList.map λ(i,x)=>(i,a.eval x)) _ _ _ m G (by simp [VRs]) E B;refine ⟨_,h,.val (x:=.agg r) ?_ (by simp only [VR];exact ⟨r,rfl,d⟩)⟩;have I:(j.mapM λ(f:Field)=>do pure (f.offset,<-sizeOf f.type)).run P w=.ok (Dq P j.toList).toArray w:=by
    rw [Q8];simp only [Sem.run_map,IX j.toList q,az]
   have A:(λ(i:Nat)=>(Dq P j.toList).toArray[i]?)=λ(i:Nat)=>(Dq P j.toList)[i]?:=by
    funext i;simp
   simp only [execOp,D,Instr.build,ax,F,az,aZ v,I,A,k,b,aD]
  ·cases h
 ·rename_i n e v;split at h
  ·rename_i p;obtain ⟨M,y⟩:=ca p;obtain ⟨l,B,h⟩:=aw h;obtain ⟨r,b,d⟩:=wj _ _ (g.toList.map λ(i,x)=>(i,a.eval x)) _ _ _ m G (by simp [VRs]) E B;refine ⟨_,h,.val (x:=.agg r) ?_ (qz d)⟩;simp only [execOp,D,Instr.build,ax,F,az,aZ v,gi y,k,b,aD]
  ·cases h
 ·cases h
theorem xl (l:List V):∀n,(BV l n).length=n*l.length
 | 0=>by simp [BV]
 | n+1=>by simp [BV,xl l n,gW,qb]
theorem Qf {ι:Inj} {l:List V} {a:Array Value} (h:VRs ι l a.toList) (m:0<l.length):∀n,VRs ι (BV l n) ((Array.range (n*l.length)).map (a[·%a.size]!)).toList:=by
 have b:a.size=l.length:=by simpa using h.length
 intro n;refine VRs.of_get (by simp [xl]) λj v x e hx=>?_;have key:∀n j v,(BV l n)[j]?=some v->l[j%l.length]?=some v:=by
  intro n
  induction n with
  | zero=>intro j v h;simp [BV] at h
  | succ n ih=>
   intro j v h;simp only [BV] at h;by_cases c:j<l.length
   ·rw [nN c] at h;rw [oO c];exact h
   ·rw [qF (by omega)] at h;have:=ih _ _ h;rwa [<-Nat.mod_eq_sub_mod (by omega)] at this
 have k:=key n j v e;obtain ⟨y,hy,d⟩:=h.get k;have f:j<n*l.length:=by
  rcases aH j (n*l.length) with g | g
  ·exact g
  ·rw [gU (by rw [xl];omega)] at e;cases e
 have i:j%l.length<a.size:=by rw [b];exact tJ _ m
 have:x=a[j%a.size]! := by
  simp [f] at hx;exact hx.symm
 rw [this,b];have hy':a[j%l.length]?=some y:=by simpa using hy
 have:a[j%l.length]! = y:=by
  rw [getElem!_def,hy']
 rw [this];exact d
theorem yY {t e:TypeId} {n:Nat} {zc:Value} {i:TypeInfo} {g:Array (Nat×Value)} {h:Array Value} {w:World} (j:P.underlying t=some (.slice e)) (hi:P.info? e=some i)
  (f:n*P.cellsOf e<=1000) (k:∀w,(zeroValue e).run P w=.ok zc w)
  (a:Instr.fill (λi=>some (i*P.cellsOf e,P.cellsOf e)) ((Array.range (n*P.cellsOf e)).map (zc.cells[·%zc.cells.size]!)) g.toList=some h):
  (Instr.buildSlice t n g).run P w=.ok (.slice (some ⟨w.heap.size,0,none⟩) n n) (w.alloc (.cells h e)):=by
 have c:¬(n*P.cellsOf e>2 ^ 24):=Nat.not_lt.2 (qR f (by decide));unfold Instr.buildSlice;simp only [ax,az,aZ j,gi hi];rw [ab c];by_cases d:n*P.cellsOf e=0
 ·rw [ae d];have b:Array.range 0=#[]:=rfl;rw [d] at a ⊢;rw [b,IH] at a;simp only [ax,aD,az,b,IH,a,newRow,yE,xM]
 ·rw [ab d];simp only [ax,k,aD,az,a,newRow,yE,xM]
theorem y7 {t:TypeId} {n:Nat} {y:Array (Nat×Operand)} (J:o.op=.buildSlice t n y) (X:TR ι s.T a.tmps) (O:ι f=none) (h:effK P (opd s.T) s.H f (.buildSlice t n y) c=some z):
  ∃e,c e=some z/\gI P ι f o a w e:=by
 simp only [effK] at h;split at h
 ·rename_i e N;split at h
  ·rename_i M;simp only [aA] at M;obtain ⟨C,k⟩:=M;obtain ⟨Z,D⟩:=ca k;obtain ⟨Y,B,h⟩:=aw h;obtain ⟨G,hp,h⟩:=aw h;split at h
   ·rename_i b;have b:=bC b;obtain ⟨l,S,h⟩:=aw h;obtain ⟨x,i,h1,h2,V,U⟩:=wg ι B;obtain ⟨W,R⟩:=vi X _ _ hp;have I:=nF V;have E:(y.map λ(i,x)=>(i,a.eval x)).toList=y.toList.map λ(i,x)=>(i,a.eval x):=by simp
    have hpos':0<P.cellsOf e:=aL k;have A:=Qf I (by omega) n;rw [b] at A;obtain ⟨v,g,j⟩:=wj _ _ (y.toList.map λ(i,x)=>(i,a.eval x)) _ _ _ A W (by simp [VRs]) R S;rw [<-E] at g;have r:=yY (w:=w) N D (aL C) U g;split at h
    ·rename_i tr Q;split at h
     case h_2=>cases h
     rename_i u;simp only [aA,jk] at u;obtain ⟨L,K⟩:=u;obtain ⟨m,F,h⟩:=aw h;obtain ⟨m1,m2⟩:=Ef F (by rw [K,L]);have p:v.size=n*tr.length:=by rw [L,<-K];simpa using j.length
     rw [m2] at j;refine ⟨_,h,.mkR (d:=w.drawn) (q:=(Rf.of w.heap.size (n) (n))) (x:=.slice (some ⟨w.heap.size,0,none⟩) n n) (ob:=.cells v e) ?_ rfl rfl
      ⟨v,e,(0,0),rfl,m1,aV _,by rw [p];simp,?_,.inr (ta _)⟩ ?_⟩
     ·simp only [execOp,J,ax,r,az,aD]
     ·rw [<-Hu ι m _ j,m1];simp only [cw];exact jf (by rw [NR,p];exact aV _)
     ·simp only [VR];exact .inl ⟨_,dF _ _ _,rfl⟩
    ·refine ⟨_,h,.mk (x:=.slice (some ⟨w.heap.size,0,none⟩) n n) (ob:=.cells v e) ?_ ⟨v,e,(0,0),rfl,VRs.mono (pT O) _ _ j,ta _⟩ ?_⟩
     ·simp only [execOp,J,ax,r,az,aD]
     ·simp only [VR];exact ⟨_,n,dF _ _ _,λm F=>by simpa using F,aV _,rfl⟩
   ·cases h
  ·cases h
 ·cases h
theorem LL {t:TypeId} {x:Operand} (d:o.op=.range t x) (i:TR ι s.T a.tmps) (h:effK P (opd s.T) s.H f (.range t x) c=some z):
  ∃e,c e=some z/\gI P ι f o a w e:=by
 simp only [effK] at h;split at h
 ·rename_i g;split at h
  ·rename_i l hx;have b:=bA i hx;simp only [VR] at b;refine ⟨_,h,.mk (x:=.pointer (some ⟨w.heap.size,0,none⟩)) (ob:=.stringIter ⟨l.toArray⟩ 0) ?_ rfl (by simp only [VR];exact ⟨_,dF _ _ _,rfl⟩)⟩;simp only [execOp,d,Instr.range,ax,az,aZ g,b,aD,yE,xM]
  ·cases h
 ·cases h
end ops
end Go.Abs
