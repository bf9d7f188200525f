
/- The abstract effect of an operation is what the model's own operation does: all operations but calls of Go functions.
   Conditions: none; generic over the program. -/
import Derived.Test.YtfiponokimbeeaaGreatDoorAbsF
set_option linter.unusedSimpArgs false
set_option linter.unusedVariables false
namespace Go.Abs
variable {P:Program}
theorem oV (o j:Nat):padd o j=o+j:=by
 unfold padd;cases h:Nat.beq o 0 with
 | true=>have:o=0:=bB h;simp [this]
 | false=>rfl
theorem vO (j s:Nat):pmul j s=j*s:=by
 unfold pmul;cases h:Nat.beq s 1 with
 | true=>have:s=1:=bB h;simp [this]
 | false=>rfl
theorem nH {n j:Nat} {i:Int} (h:ix n i=some j):0<=i/\i<n/\j=i.toNat:=by
 unfold ix at h;split at h
 ·rename_i hc;simp only [ak] at h;exact ⟨hc.1,hc.2,h.symm⟩
 ·cases h
theorem kn {n j:Nat} {i:Int} (h:bx n i=some j):0<=i/\i<=n/\j=i.toNat:=by
 unfold bx at h;split at h
 ·rename_i hc;simp only [ak] at h;exact ⟨hc.1,hc.2,h.symm⟩
 ·cases h
theorem nN {ι:Inj} {T:List (Nat×Option V)} {a:Act} (c:TR ι T a.tmps) {x:Option Operand} {l:Option Int} (h:qf (opd T) x=some l):
  (l=none/\x.map a.eval=none)\/∃k n,l=some n/\x.map a.eval=some (.int k n):=by
 unfold qf at h;split at h
 ·simp only [ak] at h;subst h;exact .inl ⟨rfl,rfl⟩
 ·split at h
  ·rename_i k n b;simp only [ak] at h;subst h;have:=bg c b;simp only [VR] at this;exact .inr ⟨k,n,rfl,by simp [this]⟩
  ·cases h
theorem vp {α:Type} {ι:Inj} {T:List (Nat×Option V)} {a:Act} (r:TR ι T a.tmps) {lo hi:Option Operand} {l h:Option Int} (t:qf (opd T) lo=some l)
  (s:qf (opd T) hi=some h) {n len:Nat} {isSlice:Bool} {c:Nat->Nat->Option α} {z:α} (e:(hiK n len h λh=>loK h l λl=>c h l)=some z):
  ∃H L,c H L=some z/\(h=none\/H<=n)/\(h=none->H=len)/\(h≠none->H<=n)/\L<=H/\(l=none->L=0)/\
   ∀w,(Instr.sliceBounds isSlice len n (lo.map a.eval) (hi.map a.eval) none).run P w=.ok (L,H,n) w:=by
 have i:∀{H:Nat},loK H l (c H)=some z->∃L,c H L=some z/\L<=H/\(l=none->L=0)/\
   ∀w,(match lo.map a.eval with | some v=>Instr.sliceBound v H .sliceB | none=>pure 0).run P w=.ok L w:=by
  intro H e;rcases nN r t with ⟨rfl,g⟩ | ⟨k,m,rfl,g⟩
  ·exact ⟨0,e,jh _,λ_=>rfl,λw=>by rw [g];rfl⟩
  ·simp only [loK] at e;obtain ⟨L,j,o⟩:=ar e;obtain ⟨g0,p,rfl⟩:=kn j;exact ⟨_,o,by omega,by simp,λw=>by rw [g];exact run_sliceBound w k m H .sliceB g0 p⟩
 rcases nN r s with ⟨rfl,g⟩ | ⟨k,m,rfl,g⟩
 ·simp only [hiK] at e;obtain ⟨L,j,o,q,d⟩:=i e;refine ⟨len,L,j,.inl rfl,λ_=>rfl,by simp,o,q,λw=>?_⟩;have d:=d w;rw [g];simp only [Instr.sliceBounds,aw,aB,ay,vF,bA,aC];cases b:lo.map a.eval with
  | none=>rw [b] at d;simp only [aB,xm,vJ] at d;simp [d]
  | some v=>rw [b] at d;simp only [] at d;simp [d]
 ·simp only [hiK] at e;obtain ⟨H,j,o⟩:=ar e;obtain ⟨g0,p,rfl⟩:=kn j;obtain ⟨L,q,d,x,f⟩:=i o;refine ⟨_,L,q,.inr (by omega),by simp,λ_=>by omega,d,x,λw=>?_⟩;have f:=f w;rw [g];have u:=run_sliceBound (P:=P) w k m n (if isSlice=true then .sliceAcap else .sliceAlen) g0 p;simp only [Instr.sliceBounds,aw,aB,ay,vF,bA,aC,u];cases b:lo.map a.eval with
  | none=>rw [b] at f;simp only [aB,xm,vJ] at f;simp [f]
  | some v=>rw [b] at f;simp only [] at f;simp [f]
section ops
variable {α:Type} {ι:Inj} {s:St} {a:Act} {w:World} {f:Nat} {o:Oper} {c:Eff->Option α} {z:α}
theorem Nc {t:TypeId} {x:Operand} (D:o.op=.load t x) (B:TR ι s.T a.tmps) (C:WR ι s.H s.nb w) (h:effK P (opd s.T) s.H f (.load t x) c=some z):
  ∃e,c e=some z/\fR P ι f o a w e:=by
 simp only [effK] at h;split at h
 ·rename_i b off hx;split at h
  ·rename_i blk A;obtain ⟨v,X,r,u,E,p,y⟩:=FW C A h;have i:=bg B hx;simp only [VR] at i;obtain ⟨N,g,m⟩:=i;rw [E] at g;cases g;exact ⟨_,u,.val (by simp only [execOp,D,m,aw,p,ay,aB]) y⟩
  ·cases h
 ·rename_i W b j off hx;split at h
  case h_2=>cases h
  rename_i tr l A;split at h
  case h_2=>cases h
  rename_i n;have n:=bB n;subst n;obtain ⟨L,G,h⟩:=ar h;have i:=bg B hx;simp only [VR] at i;obtain ⟨q,g,m⟩:=i;rcases iH C A with ⟨O,Q,e,fr,d,F,R,S,U,I,V⟩ | ⟨d,_⟩
  ·rw [g] at d;cases d;obtain ⟨J,M⟩:=OI I G;have K:l.length*tr.length<=q.k*tr.length:=nF _ (by omega);rw [<-fY] at m;obtain ⟨v,X,u,p,y⟩:=MR (o:=off) F (by rw [jG,J];exact (my ι tr L _).2 rfl) (by rw [jG];omega) h;exact ⟨_,u,.val (by simp only [execOp,D,m,aw,p,ay,aB]) y⟩
  ·rw [g] at d;cases d
 ·cases h
theorem Io {t:TypeId} {x y:Operand} (S:o.op=.store t x y) (B:TR ι s.T a.tmps) (N:WR ι s.H s.nb w) (h:effK P (opd s.T) s.H f (.store t x y) c=some z):
  ∃e,c e=some z/\fR P ι f o a w e:=by
 simp only [effK] at h;split at h
 ·rename_i b off hx;obtain ⟨v,hy,h⟩:=ar h;split at h
  ·rename_i blk K;obtain ⟨U,M,r,g,D,E,J⟩:=HT N K (bg B hy) h;have u:=bg B hx;simp only [VR] at u;obtain ⟨r',d,A⟩:=u;rw [D] at d;cases d;refine ⟨_,g,?_⟩;unfold fR;exact ⟨r,D,λ_=>⟨M,.skip,by simp only [execOp,S,A,aw,E,ay,aB],J,.skip rfl⟩⟩
  ·cases h
 ·rename_i zz b j off hx;obtain ⟨v,hy,R⟩:=ar h;clear h;have h:=R;clear R;split at h
  case h_2=>cases h
  rename_i tr l K;split at h
  case h_2=>cases h
  rename_i n;have n:=bB n;subst n;obtain ⟨xr,I,h⟩:=ar h;have u:=bg B hx;simp only [VR] at u;obtain ⟨q,d,A⟩:=u;rcases iH N K with ⟨q',O,e,fr,i,V,W,g4,g5,Q,g7⟩ | ⟨i,_⟩
  ·rw [d] at i;cases i;obtain ⟨Z,r2⟩:=OI Q I;have hle:l.length*tr.length<=q.k*tr.length:=nF _ (by omega);rw [<-fY] at A;obtain ⟨l',X,g,D,E,J⟩:=Ls (o:=off) (fr:=fr) V (by rw [jG,Z];exact (my ι tr xr _).2 rfl) (by rw [jG];omega) (bg B hy) h;simp only at g;obtain ⟨C,F,g⟩:=ar g;have Y:X=vals tr C:=(my ι tr C X).1 (by rw [<-uP F];exact E);subst Y;have L:j<l.length:=by
    rcases aF j l.length with G | G
    ·exact G
    ·rw [fW G] at I;cases I
   have m:(splA O (q.o+j*tr.length) (vals tr C)).size=O.size:=wb (by rw [jc];omega);refine ⟨_,g,?_⟩;unfold fR;refine ⟨q,d,λn=>?_⟩;have p:=g7.resolve_left (by rw [n];simp);refine ⟨_,.skip,by simp only [execOp,S,A,aw,J p,ay,aB];rfl,⟨_,e,fr,rfl,by rw [List.length_set];exact W,g4,by rw [m];exact g5,?_,.inr (by rw [m];exact p)⟩,.skip rfl⟩;exact MS (by omega) Q C L
  ·rw [d] at i;cases i
 ·cases h
theorem Iz {t:TypeId} (b:o.op=.alloc t) (h:effK P (opd s.T) s.H f (.alloc t) c=some z):∃e,c e=some z/\fR P ι f o a w e:=by
 simp only [effK] at h;obtain ⟨v,j,h⟩:=ar h;obtain ⟨x,i,k,l,g,d⟩:=u0 (upd ι f (some (Rf.of w.heap.size (0) (0)))) j;refine ⟨_,h,.mk (x:=.pointer (some ⟨w.heap.size,0,none⟩)) (ob:=.cells x.cells t) ?_ (E4 (PR g) t) ?_⟩
 ·simp only [execOp,b,Instr.alloc,aw,d,ay,newVar,newRow,wI,aB,xi]
 ·simp only [VR];exact ⟨_,dk _ _ _,rfl⟩
theorem Qw {t:TypeId} {x:Operand} (g:o.op=.box t x) (d:TR ι s.T a.tmps) (i:ι f=none) (h:effK P (opd s.T) s.H f (.box t x) c=some z):
  ∃e,c e=some z/\fR P ι f o a w e:=by
 simp only [effK] at h;obtain ⟨v,b,h⟩:=ar h;have hv':=bg d b;refine ⟨_,h,.mk (x:=.pointer (some ⟨w.heap.size,0,none⟩)) (ob:=.cells (a.eval x).cells t) ?_ (E4 (VR.mono (pw i) _ _ hv') t) ?_⟩
 ·simp only [execOp,g,Instr.box,aw,ay,newVar,newRow,wI,aB,xi]
 ·simp only [VR];exact ⟨_,dk _ _ _,rfl⟩
theorem GW (a:List Field) (h:(a.all λfd=>Nat.blt 0 (P.cellsOf fd.type))=true) (w:World):
  (a.mapM λ(f:Field)=>do pure (f.offset,<-sizeOf f.type)).run P w=.ok (Cb P a) w:=by
 induction a with
 | nil=>rfl
 | cons fd a ih=>
  simp only [lA,az] at h;obtain ⟨i,hi⟩:=bK h.1;have ih:=ih h.2;simp only [Ei,aw,fw hi,ay,aB,ih];rfl
theorem Ku {t:TypeId} {g:Array (Nat×Operand)} (E:o.op=.build t g) (J:TR ι s.T a.tmps) (h:effK P (opd s.T) s.H f (.build t g) c=some z):
  ∃e,c e=some z/\fR P ι f o a w e:=by
 simp only [effK] at h;obtain ⟨O,B,h⟩:=ar h;obtain ⟨C,hp,h⟩:=ar h;obtain ⟨x,i,N,L,I,D⟩:=u0 ι B;obtain ⟨G,F⟩:=uf J _ _ hp;have j:=mi I;have p:(g.map λ(i,x)=>(i,a.eval x)).toList=g.toList.map λ(i,x)=>(i,a.eval x):=by simp
 split at h
 ·rename_i k y;split at h
  ·rename_i q;obtain ⟨l,v,h⟩:=ar h;obtain ⟨r,b,d⟩:=uZ _ _ (g.toList.map λ(i,x)=>(i,a.eval x)) _ _ _ j G (by simp [VRs]) F v;refine ⟨_,h,.val (x:=.agg r) ?_ (by simp only [VR];exact ⟨r,rfl,d⟩)⟩;have K:(k.mapM λ(f:Field)=>do pure (f.offset,<-sizeOf f.type)).run P w=.ok (Cb P k.toList).toArray w:=by
    rw [OH];simp only [Sem.run_map,GW k.toList q,ay]
   have A:(λ(i:Nat)=>(Cb P k.toList).toArray[i]?)=λ(i:Nat)=>(Cb P k.toList)[i]?:=by
    funext i;simp
   simp only [execOp,E,Instr.build,aw,D,ay,aT y,K,A,p,b,aB]
  ·cases h
 ·rename_i n e y;split at h
  ·rename_i m;obtain ⟨M,u⟩:=bK m;obtain ⟨l,v,h⟩:=ar h;obtain ⟨r,b,d⟩:=uZ _ _ (g.toList.map λ(i,x)=>(i,a.eval x)) _ _ _ j G (by simp [VRs]) F v;refine ⟨_,h,.val (x:=.agg r) ?_ (pa d)⟩;simp only [execOp,E,Instr.build,aw,D,ay,aT y,fw u,p,b,aB]
  ·cases h
 ·cases h
theorem wh (l:List V):∀n,(zU l n).length=n*l.length
 | 0=>by simp [zU]
 | n+1=>by simp [zU,wh l n,f9,oN]
theorem Nl {ι:Inj} {l:List V} {a:Array Value} (h:VRs ι l a.toList) (k:0<l.length):∀n,VRs ι (zU l n) ((Array.range (n*l.length)).map (a[·%a.size]!)).toList:=by
 have b:a.size=l.length:=by simpa using h.length
 intro n;refine VRs.of_get (by simp [wh]) λj v x d hx=>?_;have key:∀n j v,(zU l n)[j]?=some v->l[j%l.length]?=some v:=by
  intro n
  induction n with
  | zero=>intro j v h;simp [zU] at h
  | succ n ih=>
   intro j v h;simp only [zU] at h;by_cases c:j<l.length
   ·rw [mQ c] at h;rw [o6 c];exact h
   ·rw [pN (by omega)] at h;have:=ih _ _ h;rwa [<-Nat.mod_eq_sub_mod (by omega)] at this
 have m:=key n j v d;obtain ⟨y,hy,f⟩:=h.get m;have e:j<n*l.length:=by
  rcases aF j (n*l.length) with g | g
  ·exact g
  ·rw [fW (by rw [wh];omega)] at d;cases d
 have i:j%l.length<a.size:=by rw [b];exact AA _ k
 have:x=a[j%a.size]! := by
  simp [e] at hx;exact hx.symm
 rw [this,b];have hy':a[j%l.length]?=some y:=by simpa using hy
 have:a[j%l.length]! = y:=by
  rw [getElem!_def,hy']
 rw [this];exact f
theorem xB {t e:TypeId} {n:Nat} {zc:Value} {i:TypeInfo} {h:Array (Nat×Value)} {g:Array Value} {w:World} (k:P.underlying t=some (.slice e)) (hi:P.info? e=some i)
  (d:n*P.cellsOf e<=1000) (j:∀w,(zeroValue e).run P w=.ok zc w)
  (a:Instr.fill (λi=>some (i*P.cellsOf e,P.cellsOf e)) ((Array.range (n*P.cellsOf e)).map (zc.cells[·%zc.cells.size]!)) h.toList=some g):
  (Instr.buildSlice t n h).run P w=.ok (.slice (some ⟨w.heap.size,0,none⟩) n n) (w.alloc (.cells g e)):=by
 have f:¬(n*P.cellsOf e>2 ^ 24):=Nat.not_lt.2 (rV d (by decide));unfold Instr.buildSlice;simp only [aw,ay,aT k,fw hi];rw [ab f];by_cases c:n*P.cellsOf e=0
 ·rw [ae c];have b:Array.range 0=#[]:=rfl;rw [c] at a ⊢;rw [b,FV] at a;simp only [aw,aB,ay,b,FV,a,newRow,wI,xi]
 ·rw [ab c];simp only [aw,j,aB,ay,a,newRow,wI,xi]
theorem xE {t:TypeId} {n:Nat} {A:Array (Nat×Operand)} (M:o.op=.buildSlice t n A) (O:TR ι s.T a.tmps) (Q:ι f=none) (h:effK P (opd s.T) s.H f (.buildSlice t n A) c=some z):
  ∃e,c e=some z/\fR P ι f o a w e:=by
 simp only [effK] at h;split at h
 ·rename_i e X;split at h
  ·rename_i L;simp only [az] at L;obtain ⟨D,r⟩:=L;obtain ⟨Z,C⟩:=bK r;obtain ⟨zv,F,h⟩:=ar h;obtain ⟨I,hp,h⟩:=ar h;split at h
   ·rename_i b;have b:=bB b;obtain ⟨l,S,h⟩:=ar h;obtain ⟨x,i,h1,Y,N,R⟩:=u0 ι F;obtain ⟨V,U⟩:=uf O _ _ hp;have B:=mi N;have E:(A.map λ(i,x)=>(i,a.eval x)).toList=A.toList.map λ(i,x)=>(i,a.eval x):=by simp
    have hpos':0<P.cellsOf e:=aE r;have u:=Nl B (by omega) n;rw [b] at u;obtain ⟨y,g,j⟩:=uZ _ _ (A.toList.map λ(i,x)=>(i,a.eval x)) _ _ _ u V (by simp [VRs]) U S;rw [<-E] at g;have p:=xB (w:=w) X C (aE D) R g;split at h
    ·rename_i tr W;split at h
     case h_2=>cases h
     rename_i v;simp only [az,ie] at v;obtain ⟨J,K⟩:=v;obtain ⟨m,G,h⟩:=ar h;obtain ⟨m1,m2⟩:=BM G (by rw [K,J]);have k:y.size=n*tr.length:=by rw [J,<-K];simpa using j.length
     rw [m2] at j;refine ⟨_,h,.mkR (d:=w.drawn) (q:=(Rf.of w.heap.size (n) (n))) (x:=.slice (some ⟨w.heap.size,0,none⟩) n n) (ob:=.cells y e) ?_ rfl rfl
      ⟨y,e,(0,0),rfl,m1,aP _,by rw [k];simp,?_,.inr (sq _)⟩ ?_⟩
     ·simp only [execOp,M,aw,p,ay,aB]
     ·rw [<-FK ι m _ j,m1];simp only [ch];exact lu (by rw [KV,k];exact aP _)
     ·simp only [VR];exact .inl ⟨_,dk _ _ _,rfl⟩
    ·refine ⟨_,h,.mk (x:=.slice (some ⟨w.heap.size,0,none⟩) n n) (ob:=.cells y e) ?_ ⟨y,e,(0,0),rfl,VRs.mono (pw Q) _ _ j,sq _⟩ ?_⟩
     ·simp only [execOp,M,aw,p,ay,aB]
     ·simp only [VR];exact ⟨_,n,dk _ _ _,λm G=>by simpa using G,aP _,rfl⟩
   ·cases h
  ·cases h
 ·cases h
theorem IL {t:TypeId} {x:Operand} (g:o.op=.range t x) (d:TR ι s.T a.tmps) (h:effK P (opd s.T) s.H f (.range t x) c=some z):
  ∃e,c e=some z/\fR P ι f o a w e:=by
 simp only [effK] at h;split at h
 ·rename_i i;split at h
  ·rename_i l hx;have b:=bg d hx;simp only [VR] at b;refine ⟨_,h,.mk (x:=.pointer (some ⟨w.heap.size,0,none⟩)) (ob:=.stringIter ⟨l.toArray⟩ 0) ?_ rfl (by simp only [VR];exact ⟨_,dk _ _ _,rfl⟩)⟩;simp only [execOp,g,Instr.range,aw,ay,aT i,b,aB,wI,xi]
  ·cases h
 ·cases h
end ops
end Go.Abs
