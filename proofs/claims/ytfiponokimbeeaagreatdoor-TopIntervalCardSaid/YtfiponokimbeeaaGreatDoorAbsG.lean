
/- The abstract effect of an operation is what the model's own operation does: all operations but calls of Go functions.
   Conditions: none; generic over the program. -/
import Derived.Test.YtfiponokimbeeaaGreatDoorAbsF
set_option linter.unusedSimpArgs false
set_option linter.unusedVariables false
namespace Go.Abs
variable {P:Program}
theorem nE (o j:Nat):padd o j=o+j:=by
 unfold padd;cases h:Nat.beq o 0 with
 | true=>have:o=0:=bq h;simp [this]
 | false=>rfl
theorem ut (j s:Nat):pmul j s=j*s:=by
 unfold pmul;cases h:Nat.beq s 1 with
 | true=>have:s=1:=bq h;simp [this]
 | false=>rfl
theorem mM {n j:Nat} {i:Int} (h:ix n i=some j):0<=i/\i<n/\j=i.toNat:=by
 unfold ix at h;split at h
 ·rename_i hc;simp only [ak] at h;exact ⟨hc.1,hc.2,h.symm⟩
 ·cases h
theorem kb {n j:Nat} {i:Int} (h:bx n i=some j):0<=i/\i<=n/\j=i.toNat:=by
 unfold bx at h;split at h
 ·rename_i hc;simp only [ak] at h;exact ⟨hc.1,hc.2,h.symm⟩
 ·cases h
theorem mP {ι:Inj} {T:List (Nat×Option V)} {a:Act} (c:TR ι T a.tmps) {x:Option Operand} {l:Option Int} (h:pa (opd T) x=some l):
  (l=none/\x.map a.eval=none)\/∃k n,l=some n/\x.map a.eval=some (.int k n):=by
 unfold pa at h;split at h
 ·simp only [ak] at h;subst h;exact .inl ⟨rfl,rfl⟩
 ·split at h
  ·rename_i k n b;simp only [ak] at h;subst h;have:=bh c b;simp only [VR] at this;exact .inr ⟨k,n,rfl,by simp [this]⟩
  ·cases h
theorem vL {α:Type} {ι:Inj} {T:List (Nat×Option V)} {a:Act} (r:TR ι T a.tmps) {lo hi:Option Operand} {l h:Option Int} (s:pa (opd T) lo=some l)
  (x:pa (opd T) hi=some h) {n len:Nat} {isSlice:Bool} {c:Nat->Nat->Option α} {z:α} (e:(hiK n len h λh=>loK h l λl=>c h l)=some z):
  ∃H L,c H L=some z/\(h=none\/H<=n)/\(h=none->H=len)/\(h≠none->H<=n)/\L<=H/\(l=none->L=0)/\
   ∀w,(Instr.sliceBounds isSlice len n (lo.map a.eval) (hi.map a.eval) none).run P w=.ok (L,H,n) w:=by
 have o:∀{H:Nat},loK H l (c H)=some z->∃L,c H L=some z/\L<=H/\(l=none->L=0)/\
   ∀w,(match lo.map a.eval with | some v=>Instr.sliceBound v H .sliceB | none=>pure 0).run P w=.ok L w:=by
  intro H e;rcases mP r s with ⟨rfl,g⟩ | ⟨k,m,rfl,g⟩
  ·exact ⟨0,e,je _,λ_=>rfl,λw=>by rw [g];rfl⟩
  ·simp only [loK] at e;obtain ⟨L,i,j⟩:=au e;obtain ⟨g0,q,rfl⟩:=kb i;exact ⟨_,j,by omega,by simp,λw=>by rw [g];exact run_sliceBound w k m H .sliceB g0 q⟩
 rcases mP r x with ⟨rfl,g⟩ | ⟨k,m,rfl,g⟩
 ·simp only [hiK] at e;obtain ⟨L,i,j,p,d⟩:=o e;refine ⟨len,L,i,.inl rfl,λ_=>rfl,by simp,j,p,λw=>?_⟩;have d:=d w;rw [g];simp only [Instr.sliceBounds,aw,aD,az,uL,bj,aE];cases b:lo.map a.eval with
  | none=>rw [b] at d;simp only [aD,wJ,vf] at d;simp [d]
  | some v=>rw [b] at d;simp only [] at d;simp [d]
 ·simp only [hiK] at e;obtain ⟨H,i,j⟩:=au e;obtain ⟨g0,q,rfl⟩:=kb i;obtain ⟨L,p,d,u,f⟩:=o j;refine ⟨_,L,p,.inr (by omega),by simp,λ_=>by omega,d,u,λw=>?_⟩;have f:=f w;rw [g];have t:=run_sliceBound (P:=P) w k m n (if isSlice=true then .sliceAcap else .sliceAlen) g0 q;simp only [Instr.sliceBounds,aw,aD,az,uL,bj,aE,t];cases b:lo.map a.eval with
  | none=>rw [b] at f;simp only [aD,wJ,vf] at f;simp [f]
  | some v=>rw [b] at f;simp only [] at f;simp [f]
section ops
variable {α:Type} {ι:Inj} {s:St} {a:Act} {w:World} {f:Nat} {o:Oper} {c:Eff->Option α} {z:α}
theorem M6 {t:TypeId} {x:Operand} (C:o.op=.load t x) (B:TR ι s.T a.tmps) (D:WR ι s.H s.nb w) (h:effK P (opd s.T) s.H f (.load t x) c=some z):
  ∃e,c e=some z/\fO P ι f o a w e:=by
 simp only [effK] at h;split at h
 ·rename_i b off hx;split at h
  ·rename_i blk y;obtain ⟨v,X,r,A,K,u,p⟩:=FU D y h;have i:=bh B hx;simp only [VR] at i;obtain ⟨U,d,m⟩:=i;rw [K] at d;cases d;exact ⟨_,A,.val (by simp only [execOp,C,m,aw,u,az,aD]) p⟩
  ·cases h
 ·rename_i R b j off hx;split at h
  case h_2=>cases h
  rename_i tr l y;split at h
  case h_2=>cases h
  rename_i n;have n:=bq n;subst n;obtain ⟨E,I,h⟩:=au h;have i:=bh B hx;simp only [VR] at i;obtain ⟨q,d,m⟩:=i;rcases iw D y with ⟨V,Q,e,fr,g,G,N,O,W,J,S⟩ | ⟨g,_⟩
  ·rw [d] at g;cases g;obtain ⟨F,M⟩:=On J I;have L:l.length*tr.length<=q.k*tr.length:=mH _ (by omega);rw [<-gj] at m;obtain ⟨v,X,A,u,p⟩:=Nb (o:=off) G (by rw [jq,F];exact (jr ι tr E _).2 rfl) (by rw [jq];omega) h;exact ⟨_,A,.val (by simp only [execOp,C,m,aw,u,az,aD]) p⟩
  ·rw [d] at g;cases g
 ·cases h
theorem HA {t:TypeId} {x y:Operand} (O:o.op=.store t x y) (A:TR ι s.T a.tmps) (R:WR ι s.H s.nb w) (h:effK P (opd s.T) s.H f (.store t x y) c=some z):
  ∃e,c e=some z/\fO P ι f o a w e:=by
 simp only [effK] at h;split at h
 ·rename_i b off hx;obtain ⟨v,hy,h⟩:=au h;split at h
  ·rename_i blk J;obtain ⟨N,I,r,g,M,G,E⟩:=HG R J (bh A hy) h;have u:=bh A hx;simp only [VR] at u;obtain ⟨r',d,C⟩:=u;rw [M] at d;cases d;refine ⟨_,g,?_⟩;unfold fO;exact ⟨r,M,λ_=>⟨I,.skip,by simp only [execOp,O,C,aw,G,az,aD],E,.skip rfl⟩⟩
  ·cases h
 ·rename_i zz b j off hx;obtain ⟨v,hy,S⟩:=au h;clear h;have h:=S;clear S;split at h
  case h_2=>cases h
  rename_i tr l J;split at h
  case h_2=>cases h
  rename_i i;have i:=bq i;subst i;obtain ⟨Y,L,h⟩:=au h;have u:=bh A hx;simp only [VR] at u;obtain ⟨q,d,C⟩:=u;rcases iw R J with ⟨q',Q,e,fr,m,g2,V,Z,g5,U,g7⟩ | ⟨m,_⟩
  ·rw [d] at m;cases m;obtain ⟨r1,r2⟩:=On U L;have hle:l.length*tr.length<=q.k*tr.length:=mH _ (by omega);rw [<-gj] at C;obtain ⟨l',X,g,M,G,E⟩:=Jc (o:=off) (fr:=fr) g2 (by rw [jq,r1];exact (jr ι tr Y _).2 rfl) (by rw [jq];omega) (bh A hy) h;simp only at g;obtain ⟨B,K,g⟩:=au g;have W:X=vals tr B:=(jr ι tr B X).1 (by rw [<-tX K];exact G);subst W;have F:j<l.length:=by
    rcases aF j l.length with D | D
    ·exact D
    ·rw [fX D] at L;cases L
   have n:(splA Q (q.o+j*tr.length) (vals tr B)).size=Q.size:=vw (by rw [iW];omega);refine ⟨_,g,?_⟩;unfold fO;refine ⟨q,d,λi=>?_⟩;have p:=g7.resolve_left (by rw [i];simp);refine ⟨_,.skip,by simp only [execOp,O,C,aw,E p,az,aD];rfl,⟨_,e,fr,rfl,by rw [List.length_set];exact V,Z,by rw [n];exact g5,?_,.inr (by rw [n];exact p)⟩,.skip rfl⟩;exact LD (by omega) U B F
  ·rw [d] at m;cases m
 ·cases h
theorem Ha {t:TypeId} (j:o.op=.alloc t) (h:effK P (opd s.T) s.H f (.alloc t) c=some z):∃e,c e=some z/\fO P ι f o a w e:=by
 simp only [effK] at h;obtain ⟨v,d,h⟩:=au h;obtain ⟨x,i,k,l,g,b⟩:=uo (upd ι f (some (Rf.of w.heap.size (0) (0)))) d;refine ⟨_,h,.mk (x:=.pointer (some ⟨w.heap.size,0,none⟩)) (ob:=.cells x.cells t) ?_ (ED (ON g) t) ?_⟩
 ·simp only [execOp,j,Instr.alloc,aw,b,az,newVar,newRow,wn,aD,uW]
 ·simp only [VR];exact ⟨_,cX _ _ _,rfl⟩
theorem OZ {t:TypeId} {x:Operand} (b:o.op=.box t x) (d:TR ι s.T a.tmps) (i:ι f=none) (h:effK P (opd s.T) s.H f (.box t x) c=some z):
  ∃e,c e=some z/\fO P ι f o a w e:=by
 simp only [effK] at h;obtain ⟨v,g,h⟩:=au h;have hv':=bh d g;refine ⟨_,h,.mk (x:=.pointer (some ⟨w.heap.size,0,none⟩)) (ob:=.cells (a.eval x).cells t) ?_ (ED (VR.mono (nG i) _ _ hv') t) ?_⟩
 ·simp only [execOp,b,Instr.box,aw,az,newVar,newRow,wn,aD,uW]
 ·simp only [VR];exact ⟨_,cX _ _ _,rfl⟩
theorem F9 (a:List Field) (h:(a.all λfd=>Nat.blt 0 (P.cellsOf fd.type))=true) (w:World):
  (a.mapM λ(f:Field)=>do pure (f.offset,<-sizeOf f.type)).run P w=.ok (BL P a) w:=by
 induction a with
 | nil=>rfl
 | cons fd a ih=>
  simp only [lg,aB] at h;obtain ⟨i,hi⟩:=bL h.1;have ih:=ih h.2;simp only [ER,aw,fk hi,az,aD,ih];rfl
theorem Ik {t:TypeId} {g:Array (Nat×Operand)} (G:o.op=.build t g) (J:TR ι s.T a.tmps) (h:effK P (opd s.T) s.H f (.build t g) c=some z):
  ∃e,c e=some z/\fO P ι f o a w e:=by
 simp only [effK] at h;obtain ⟨L,C,h⟩:=au h;obtain ⟨v,hp,h⟩:=au h;obtain ⟨x,i,N,O,I,D⟩:=uo ι C;obtain ⟨E,F⟩:=sj J _ _ hp;have m:=lM I;have j:(g.map λ(i,x)=>(i,a.eval x)).toList=g.toList.map λ(i,x)=>(i,a.eval x):=by simp
 split at h
 ·rename_i p B;split at h
  ·rename_i k;obtain ⟨l,u,h⟩:=au h;obtain ⟨r,b,d⟩:=tV _ _ (g.toList.map λ(i,x)=>(i,a.eval x)) _ _ _ m E (by simp [VRs]) F u;refine ⟨_,h,.val (x:=.agg r) ?_ (by simp only [VR];exact ⟨r,rfl,d⟩)⟩;have K:(p.mapM λ(f:Field)=>do pure (f.offset,<-sizeOf f.type)).run P w=.ok (BL P p.toList).toArray w:=by
    rw [NZ];simp only [Sem.run_map,F9 p.toList k,az]
   have y:(λ(i:Nat)=>(BL P p.toList).toArray[i]?)=λ(i:Nat)=>(BL P p.toList)[i]?:=by
    funext i;simp
   simp only [execOp,G,Instr.build,aw,D,az,aR B,K,y,j,b,aD]
  ·cases h
 ·rename_i n e B;split at h
  ·rename_i q;obtain ⟨M,A⟩:=bL q;obtain ⟨l,u,h⟩:=au h;obtain ⟨r,b,d⟩:=tV _ _ (g.toList.map λ(i,x)=>(i,a.eval x)) _ _ _ m E (by simp [VRs]) F u;refine ⟨_,h,.val (x:=.agg r) ?_ (nN d)⟩;simp only [execOp,G,Instr.build,aw,D,az,aR B,fk A,j,b,aD]
  ·cases h
 ·cases h
theorem wC (l:List V):∀n,(yH l n).length=n*l.length
 | 0=>by simp [yH]
 | n+1=>by simp [yH,wC l n,fY,nL]
theorem NK {ι:Inj} {l:List V} {a:Array Value} (h:VRs ι l a.toList) (k:0<l.length):∀n,VRs ι (yH l n) ((Array.range (n*l.length)).map (a[·%a.size]!)).toList:=by
 have c:a.size=l.length:=by simpa using h.length
 intro n;refine VRs.of_get (by simp [wC]) λj v x e hx=>?_;have key:∀n j v,(yH l n)[j]?=some v->l[j%l.length]?=some v:=by
  intro n
  induction n with
  | zero=>intro j v h;simp [yH] at h
  | succ n ih=>
   intro j v h;simp only [yH] at h;by_cases b:j<l.length
   ·rw [mg b] at h;rw [re b];exact h
   ·rw [ox (by omega)] at h;have:=ih _ _ h;rwa [<-Nat.mod_eq_sub_mod (by omega)] at this
 have m:=key n j v e;obtain ⟨y,hy,f⟩:=h.get m;have d:j<n*l.length:=by
  rcases aF j (n*l.length) with g | g
  ·exact g
  ·rw [fX (by rw [wC];omega)] at e;cases e
 have i:j%l.length<a.size:=by rw [c];exact qS _ k
 have:x=a[j%a.size]! := by
  simp [d] at hx;exact hx.symm
 rw [this,c];have hy':a[j%l.length]?=some y:=by simpa using hy
 have:a[j%l.length]! = y:=by
  rw [getElem!_def,hy']
 rw [this];exact f
theorem wQ {t e:TypeId} {n:Nat} {zc:Value} {i:TypeInfo} {g:Array (Nat×Value)} {h:Array Value} {w:World} (k:P.underlying t=some (.slice e)) (hi:P.info? e=some i)
  (f:n*P.cellsOf e<=1000) (j:∀w,(zeroValue e).run P w=.ok zc w)
  (a:Instr.fill (λi=>some (i*P.cellsOf e,P.cellsOf e)) ((Array.range (n*P.cellsOf e)).map (zc.cells[·%zc.cells.size]!)) g.toList=some h):
  (Instr.buildSlice t n g).run P w=.ok (.slice (some ⟨w.heap.size,0,none⟩) n n) (w.alloc (.cells h e)):=by
 have d:¬(n*P.cellsOf e>2 ^ 24):=Nat.not_lt.2 (qO f (by decide));unfold Instr.buildSlice;simp only [aw,az,aR k,fk hi];rw [ab d];by_cases c:n*P.cellsOf e=0
 ·rw [ae c];have b:Array.range 0=#[]:=rfl;rw [c] at a ⊢;rw [b,Ed] at a;simp only [aw,aD,az,b,Ed,a,newRow,wn,uW]
 ·rw [ab c];simp only [aw,j,aD,az,a,newRow,wn,uW]
theorem wX {t:TypeId} {n:Nat} {A:Array (Nat×Operand)} (J:o.op=.buildSlice t n A) (S:TR ι s.T a.tmps) (V:ι f=none) (h:effK P (opd s.T) s.H f (.buildSlice t n A) c=some z):
  ∃e,c e=some z/\fO P ι f o a w e:=by
 simp only [effK] at h;split at h
 ·rename_i e X;split at h
  ·rename_i L;simp only [aB] at L;obtain ⟨I,r⟩:=L;obtain ⟨Z,F⟩:=bL r;obtain ⟨Y,G,h⟩:=au h;obtain ⟨E,hp,h⟩:=au h;split at h
   ·rename_i g;have g:=bq g;obtain ⟨l,O,h⟩:=au h;obtain ⟨x,i,h1,h2,R,N⟩:=uo ι G;obtain ⟨Q,U⟩:=sj S _ _ hp;have D:=lM R;have B:(A.map λ(i,x)=>(i,a.eval x)).toList=A.toList.map λ(i,x)=>(i,a.eval x):=by simp
    have hpos':0<P.cellsOf e:=aG r;have u:=NK D (by omega) n;rw [g] at u;obtain ⟨y,b,j⟩:=tV _ _ (A.toList.map λ(i,x)=>(i,a.eval x)) _ _ _ u Q (by simp [VRs]) U O;rw [<-B] at b;have p:=wQ (w:=w) X F (aG I) N b;split at h
    ·rename_i tr W;split at h
     case h_2=>cases h
     rename_i v;simp only [aB,ig] at v;obtain ⟨M,K⟩:=v;obtain ⟨m,C,h⟩:=au h;obtain ⟨m1,m2⟩:=Bc C (by rw [K,M]);have k:y.size=n*tr.length:=by rw [M,<-K];simpa using j.length
     rw [m2] at j;refine ⟨_,h,.mkR (d:=w.drawn) (q:=(Rf.of w.heap.size (n) (n))) (x:=.slice (some ⟨w.heap.size,0,none⟩) n n) (ob:=.cells y e) ?_ rfl rfl
      ⟨y,e,(0,0),rfl,m1,aQ _,by rw [k];simp,?_,.inr (qD _)⟩ ?_⟩
     ·simp only [execOp,J,aw,p,az,aD]
     ·rw [<-D2 ι m _ j,m1];simp only [cg];exact jc (by rw [JS,k];exact aQ _)
     ·simp only [VR];exact .inl ⟨_,cX _ _ _,rfl⟩
    ·refine ⟨_,h,.mk (x:=.slice (some ⟨w.heap.size,0,none⟩) n n) (ob:=.cells y e) ?_ ⟨y,e,(0,0),rfl,VRs.mono (nG V) _ _ j,qD _⟩ ?_⟩
     ·simp only [execOp,J,aw,p,az,aD]
     ·simp only [VR];exact ⟨_,n,cX _ _ _,λm C=>by simpa using C,aQ _,rfl⟩
   ·cases h
  ·cases h
 ·cases h
theorem IV {t:TypeId} {x:Operand} (g:o.op=.range t x) (d:TR ι s.T a.tmps) (h:effK P (opd s.T) s.H f (.range t x) c=some z):
  ∃e,c e=some z/\fO P ι f o a w e:=by
 simp only [effK] at h;split at h
 ·rename_i i;split at h
  ·rename_i l hx;have b:=bh d hx;simp only [VR] at b;refine ⟨_,h,.mk (x:=.pointer (some ⟨w.heap.size,0,none⟩)) (ob:=.stringIter ⟨l.toArray⟩ 0) ?_ rfl (by simp only [VR];exact ⟨_,cX _ _ _,rfl⟩)⟩;simp only [execOp,g,Instr.range,aw,az,aR i,b,aD,wn,uW]
  ·cases h
 ·cases h
end ops
end Go.Abs
