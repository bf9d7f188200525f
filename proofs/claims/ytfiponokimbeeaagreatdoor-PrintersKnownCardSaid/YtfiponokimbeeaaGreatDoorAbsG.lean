
/- The abstract effect of an operation is what the model's own operation does: all operations but calls of Go functions.
   Conditions: none; generic over the program. -/
import Derived.Test.YtfiponokimbeeaaGreatDoorAbsF
set_option linter.unusedSimpArgs false
set_option linter.unusedVariables false
namespace Go.Abs
variable {P:Program}
theorem pp (o j:Nat):padd o j=o+j:=by
 unfold padd;cases h:Nat.beq o 0 with
 | true=>have:o=0:=bK h;simp [this]
 | false=>rfl
theorem yg (j s:Nat):pmul j s=j*s:=by
 unfold pmul;cases h:Nat.beq s 1 with
 | true=>have:s=1:=bK h;simp [this]
 | false=>rfl
theorem ow {n j:Nat} {i:Int} (h:ix n i=some j):0<=i/\i<n/\j=i.toNat:=by
 unfold ix at h;split at h
 ·rename_i hc;simp only [au] at h;exact ⟨hc.1,hc.2,h.symm⟩
 ·cases h
theorem lM {n j:Nat} {i:Int} (h:bx n i=some j):0<=i/\i<=n/\j=i.toNat:=by
 unfold bx at h;split at h
 ·rename_i hc;simp only [au] at h;exact ⟨hc.1,hc.2,h.symm⟩
 ·cases h
theorem oC {ι:Inj} {T:List (Nat×Option V)} {a:Act} (b:TR ι T a.tmps) {x:Option Operand} {l:Option Int} (h:qs (opd T) x=some l):
  (l=none/\x.map a.eval=none)\/∃k n,l=some n/\x.map a.eval=some (.int k n):=by
 unfold qs at h;split at h
 ·simp only [au] at h;subst h;exact .inl ⟨rfl,rfl⟩
 ·split at h
  ·rename_i k n c;simp only [au] at h;subst h;have:=bu b c;simp only [VR] at this;exact .inr ⟨k,n,rfl,by simp [this]⟩
  ·cases h
theorem yA {α:Type} {ι:Inj} {T:List (Nat×Option V)} {a:Act} (r:TR ι T a.tmps) {lo hi:Option Operand} {l h:Option Int} (x:qs (opd T) lo=some l)
  (u:qs (opd T) hi=some h) {n len:Nat} {isSlice:Bool} {c:Nat->Nat->Option α} {z:α} (f:(hiK n len h λh=>loK h l λl=>c h l)=some z):
  ∃H L,c H L=some z/\(h=none\/H<=n)/\(h=none->H=len)/\(h≠none->H<=n)/\L<=H/\(l=none->L=0)/\
   ∀w,(Instr.sliceBounds isSlice len n (lo.map a.eval) (hi.map a.eval) none).run P w=.ok (L,H,n) w:=by
 have j:∀{H:Nat},loK H l (c H)=some z->∃L,c H L=some z/\L<=H/\(l=none->L=0)/\
   ∀w,(match lo.map a.eval with | some v=>Instr.sliceBound v H .sliceB | none=>pure 0).run P w=.ok L w:=by
  intro H f;rcases oC r x with ⟨rfl,g⟩ | ⟨k,m,rfl,g⟩
  ·exact ⟨0,f,f7 _,λ_=>rfl,λw=>by rw [g];rfl⟩
  ·simp only [loK] at f;obtain ⟨L,o,i⟩:=av f;obtain ⟨g0,p,rfl⟩:=lM o;exact ⟨_,i,by omega,by simp,λw=>by rw [g];exact run_sliceBound w k m H .sliceB g0 p⟩
 rcases oC r u with ⟨rfl,g⟩ | ⟨k,m,rfl,g⟩
 ·simp only [hiK] at f;obtain ⟨L,o,i,q,d⟩:=j f;refine ⟨len,L,o,.inl rfl,λ_=>rfl,by simp,i,q,λw=>?_⟩;have d:=d w;rw [g];simp only [Instr.sliceBounds,aw,aD,ay,yp,br,aA];cases b:lo.map a.eval with
  | none=>rw [b] at d;simp only [aD,wM,xl] at d;simp [d]
  | some v=>rw [b] at d;simp only [] at d;simp [d]
 ·simp only [hiK] at f;obtain ⟨H,o,i⟩:=av f;obtain ⟨g0,p,rfl⟩:=lM o;obtain ⟨L,q,d,t,e⟩:=j i;refine ⟨_,L,q,.inr (by omega),by simp,λ_=>by omega,d,t,λw=>?_⟩;have e:=e w;rw [g];have s:=run_sliceBound (P:=P) w k m n (if isSlice=true then .sliceAcap else .sliceAlen) g0 p;simp only [Instr.sliceBounds,aw,aD,ay,yp,br,aA,s];cases b:lo.map a.eval with
  | none=>rw [b] at e;simp only [aD,wM,xl] at e;simp [e]
  | some v=>rw [b] at e;simp only [] at e;simp [e]
section ops
variable {α:Type} {ι:Inj} {s:St} {a:Act} {w:World} {f:Nat} {o:Oper} {c:Eff->Option α} {z:α}
theorem P9 {t:TypeId} {x:Operand} (B:o.op=.load t x) (C:TR ι s.T a.tmps) (D:WR ι s.H s.nb w) (h:effK P (opd s.T) s.H f (.load t x) c=some z):
  ∃e,c e=some z/\gJ P ι f o a w e:=by
 simp only [effK] at h;split at h
 ·rename_i b off hx;split at h
  ·rename_i blk y;obtain ⟨v,X,r,n,F,u,A⟩:=HW D y h;have g:=bu C hx;simp only [VR] at g;obtain ⟨V,d,m⟩:=g;rw [F] at d;cases d;exact ⟨_,n,.val (by simp only [execOp,B,m,aw,u,ay,aD]) A⟩
  ·cases h
 ·rename_i O b j off hx;split at h
  case h_2=>cases h
  rename_i tr l y;split at h
  case h_2=>cases h
  rename_i p;have p:=bK p;subst p;obtain ⟨I,E,h⟩:=av h;have g:=bu C hx;simp only [VR] at g;obtain ⟨q,d,m⟩:=g;rcases jA D y with ⟨M,Q,e,fr,i,J,R,S,U,L,N⟩ | ⟨i,_⟩
  ·rw [d] at i;cases i;obtain ⟨K,W⟩:=QM L E;have G:l.length*tr.length<=q.k*tr.length:=ot _ (by omega);rw [<-gY] at m;obtain ⟨v,X,n,u,A⟩:=Py (o:=off) J (by rw [kO,K];exact (nZ ι tr I _).2 rfl) (by rw [kO];omega) h;exact ⟨_,n,.val (by simp only [execOp,B,m,aw,u,ay,aD]) A⟩
  ·rw [d] at i;cases i
 ·cases h
theorem KP {t:TypeId} {x y:Operand} (N:o.op=.store t x y) (C:TR ι s.T a.tmps) (R:WR ι s.H s.nb w) (h:effK P (opd s.T) s.H f (.store t x y) c=some z):
  ∃e,c e=some z/\gJ P ι f o a w e:=by
 simp only [effK] at h;split at h
 ·rename_i b off hx;obtain ⟨v,hy,h⟩:=av h;split at h
  ·rename_i blk I;obtain ⟨S,J,r,d,F,G,K⟩:=Kp R I (bu C hy) h;have i:=bu C hx;simp only [VR] at i;obtain ⟨r',g,B⟩:=i;rw [F] at g;cases g;refine ⟨_,d,?_⟩;unfold gJ;exact ⟨r,F,λ_=>⟨J,.skip,by simp only [execOp,N,B,aw,G,ay,aD],K,.skip rfl⟩⟩
  ·cases h
 ·rename_i zz b j off hx;obtain ⟨v,hy,Q⟩:=av h;clear h;have h:=Q;clear Q;split at h
  case h_2=>cases h
  rename_i tr l I;split at h
  case h_2=>cases h
  rename_i n;have n:=bK n;subst n;obtain ⟨xr,D,h⟩:=av h;have i:=bu C hx;simp only [VR] at i;obtain ⟨q,g,B⟩:=i;rcases jA R I with ⟨q',O,e,fr,m,g2,W,Y,Z,U,V⟩ | ⟨m,_⟩
  ·rw [g] at m;cases m;obtain ⟨r1,r2⟩:=QM U D;have hle:l.length*tr.length<=q.k*tr.length:=ot _ (by omega);rw [<-gY] at B;obtain ⟨l',X,d,F,G,K⟩:=Jl (o:=off) (fr:=fr) g2 (by rw [kO,r1];exact (nZ ι tr xr _).2 rfl) (by rw [kO];omega) (bu C hy) h;simp only at d;obtain ⟨A,E,d⟩:=av d;have hX:X=vals tr A:=(nZ ι tr A X).1 (by rw [<-wb E];exact G);subst hX;have M:j<l.length:=by
    rcases aH j l.length with L | L
    ·exact L
    ·rw [gW L] at D;cases D
   have p:(splA O (q.o+j*tr.length) (vals tr A)).size=O.size:=xO (by rw [ke];omega);refine ⟨_,d,?_⟩;unfold gJ;refine ⟨q,g,λn=>?_⟩;have u:=V.resolve_left (by rw [n];simp);refine ⟨_,.skip,by simp only [execOp,N,B,aw,K u,ay,aD];rfl,⟨_,e,fr,rfl,by rw [List.length_set];exact W,Y,by rw [p];exact Z,?_,.inr (by rw [p];exact u)⟩,.skip rfl⟩;exact Ox (by omega) U A M
  ·rw [g] at m;cases m
 ·cases h
theorem MD {t:TypeId} (d:o.op=.alloc t) (h:effK P (opd s.T) s.H f (.alloc t) c=some z):∃e,c e=some z/\gJ P ι f o a w e:=by
 simp only [effK] at h;obtain ⟨v,g,h⟩:=av h;obtain ⟨x,i,k,l,b,j⟩:=vT (upd ι f (some (Rf.of w.heap.size (0) (0)))) g;refine ⟨_,h,.mk (x:=.pointer (some ⟨w.heap.size,0,none⟩)) (ob:=.cells x.cells t) ?_ (GG (Td b) t) ?_⟩
 ·simp only [execOp,d,Instr.alloc,aw,j,ay,newVar,newRow,xU,aD,xi]
 ·simp only [VR];exact ⟨_,dF _ _ _,rfl⟩
theorem Rw {t:TypeId} {x:Operand} (g:o.op=.box t x) (b:TR ι s.T a.tmps) (d:ι f=none) (h:effK P (opd s.T) s.H f (.box t x) c=some z):
  ∃e,c e=some z/\gJ P ι f o a w e:=by
 simp only [effK] at h;obtain ⟨v,i,h⟩:=av h;have hv':=bu b i;refine ⟨_,h,.mk (x:=.pointer (some ⟨w.heap.size,0,none⟩)) (ob:=.cells (a.eval x).cells t) ?_ (GG (VR.mono (pj d) _ _ hv') t) ?_⟩
 ·simp only [execOp,g,Instr.box,aw,ay,newVar,newRow,xU,aD,xi]
 ·simp only [VR];exact ⟨_,dF _ _ _,rfl⟩
theorem IM (a:List Field) (h:(a.all λfd=>Nat.blt 0 (P.cellsOf fd.type))=true) (w:World):
  (a.mapM λ(f:Field)=>do pure (f.offset,<-sizeOf f.type)).run P w=.ok (CY P a) w:=by
 induction a with
 | nil=>rfl
 | cons fd a ih=>
  simp only [mK,az] at h;obtain ⟨i,hi⟩:=bZ h.1;have ih:=ih h.2;simp only [E5,aw,gj hi,ay,aD,ih];rfl
theorem MP {t:TypeId} {g:Array (Nat×Operand)} (D:o.op=.build t g) (J:TR ι s.T a.tmps) (h:effK P (opd s.T) s.H f (.build t g) c=some z):
  ∃e,c e=some z/\gJ P ι f o a w e:=by
 simp only [effK] at h;obtain ⟨M,A,h⟩:=av h;obtain ⟨v,hp,h⟩:=av h;obtain ⟨x,i,L,N,I,E⟩:=vT ι A;obtain ⟨F,G⟩:=ux J _ _ hp;have m:=nr I;have q:(g.map λ(i,x)=>(i,a.eval x)).toList=g.toList.map λ(i,x)=>(i,a.eval x):=by simp
 split at h
 ·rename_i p C;split at h
  ·rename_i k;obtain ⟨l,B,h⟩:=av h;obtain ⟨r,b,d⟩:=vQ _ _ (g.toList.map λ(i,x)=>(i,a.eval x)) _ _ _ m F (by simp [VRs]) G B;refine ⟨_,h,.val (x:=.agg r) ?_ (by simp only [VR];exact ⟨r,rfl,d⟩)⟩;have K:(p.mapM λ(f:Field)=>do pure (f.offset,<-sizeOf f.type)).run P w=.ok (CY P p.toList).toArray w:=by
    rw [QJ];simp only [Sem.run_map,IM p.toList k,ay]
   have u:(λ(i:Nat)=>(CY P p.toList).toArray[i]?)=λ(i:Nat)=>(CY P p.toList)[i]?:=by
    funext i;simp
   simp only [execOp,D,Instr.build,aw,E,ay,aV C,K,u,q,b,aD]
  ·cases h
 ·rename_i n e C;split at h
  ·rename_i j;obtain ⟨O,y⟩:=bZ j;obtain ⟨l,B,h⟩:=av h;obtain ⟨r,b,d⟩:=vQ _ _ (g.toList.map λ(i,x)=>(i,a.eval x)) _ _ _ m F (by simp [VRs]) G B;refine ⟨_,h,.val (x:=.agg r) ?_ (pU d)⟩;simp only [execOp,D,Instr.build,aw,E,ay,aV C,gj y,q,b,aD]
  ·cases h
 ·cases h
theorem ya (l:List V):∀n,(Ax l n).length=n*l.length
 | 0=>by simp [Ax]
 | n+1=>by simp [Ax,ya l n,gU,pi]
theorem Pv {ι:Inj} {l:List V} {a:Array Value} (h:VRs ι l a.toList) (k:0<l.length):∀n,VRs ι (Ax l n) ((Array.range (n*l.length)).map (a[·%a.size]!)).toList:=by
 have c:a.size=l.length:=by simpa using h.length
 intro n;refine VRs.of_get (by simp [ya]) λj v x e hx=>?_;have key:∀n j v,(Ax l n)[j]?=some v->l[j%l.length]?=some v:=by
  intro n
  induction n with
  | zero=>intro j v h;simp [Ax] at h
  | succ n ih=>
   intro j v h;simp only [Ax] at h;by_cases b:j<l.length
   ·rw [nG b] at h;rw [rj b];exact h
   ·rw [qd (by omega)] at h;have:=ih _ _ h;rwa [<-Nat.mod_eq_sub_mod (by omega)] at this
 have m:=key n j v e;obtain ⟨y,hy,d⟩:=h.get m;have f:j<n*l.length:=by
  rcases aH j (n*l.length) with i | i
  ·exact i
  ·rw [gW (by rw [ya];omega)] at e;cases e
 have g:j%l.length<a.size:=by rw [c];exact AI _ k
 have:x=a[j%a.size]! := by
  simp [f] at hx;exact hx.symm
 rw [this,c];have hy':a[j%l.length]?=some y:=by simpa using hy
 have:a[j%l.length]! = y:=by
  rw [getElem!_def,hy']
 rw [this];exact d
theorem yH {t e:TypeId} {n:Nat} {zc:Value} {i:TypeInfo} {h:Array (Nat×Value)} {g:Array Value} {w:World} (j:P.underlying t=some (.slice e)) (hi:P.info? e=some i)
  (f:n*P.cellsOf e<=1000) (k:∀w,(zeroValue e).run P w=.ok zc w)
  (a:Instr.fill (λi=>some (i*P.cellsOf e,P.cellsOf e)) ((Array.range (n*P.cellsOf e)).map (zc.cells[·%zc.cells.size]!)) h.toList=some g):
  (Instr.buildSlice t n h).run P w=.ok (.slice (some ⟨w.heap.size,0,none⟩) n n) (w.alloc (.cells g e)):=by
 have c:¬(n*P.cellsOf e>2 ^ 24):=Nat.not_lt.2 (ri f (by decide));unfold Instr.buildSlice;simp only [aw,ay,aV j,gj hi];rw [ab c];by_cases d:n*P.cellsOf e=0
 ·rw [ae d];have b:Array.range 0=#[]:=rfl;rw [d] at a ⊢;rw [b,Ha] at a;simp only [aw,aD,ay,b,Ha,a,newRow,xU,xi]
 ·rw [ab d];simp only [aw,k,aD,ay,a,newRow,xU,xi]
theorem yG {t:TypeId} {n:Nat} {A:Array (Nat×Operand)} (J:o.op=.buildSlice t n A) (U:TR ι s.T a.tmps) (V:ι f=none) (h:effK P (opd s.T) s.H f (.buildSlice t n A) c=some z):
  ∃e,c e=some z/\gJ P ι f o a w e:=by
 simp only [effK] at h;split at h
 ·rename_i e R;split at h
  ·rename_i K;simp only [az] at K;obtain ⟨E,k⟩:=K;obtain ⟨i',C⟩:=bZ k;obtain ⟨Z,D,h⟩:=av h;obtain ⟨B,hp,h⟩:=av h;split at h
   ·rename_i b;have b:=bK b;obtain ⟨l,Q,h⟩:=av h;obtain ⟨x,i,Y,h2,O,S⟩:=vT ι D;obtain ⟨W,X⟩:=ux U _ _ hp;have F:=nr O;have I:(A.map λ(i,x)=>(i,a.eval x)).toList=A.toList.map λ(i,x)=>(i,a.eval x):=by simp
    have hpos':0<P.cellsOf e:=aI k;have u:=Pv F (by omega) n;rw [b] at u;obtain ⟨v,g,j⟩:=vQ _ _ (A.toList.map λ(i,x)=>(i,a.eval x)) _ _ _ u W (by simp [VRs]) X Q;rw [<-I] at g;have p:=yH (w:=w) R C (aI E) S g;split at h
    ·rename_i tr N;split at h
     case h_2=>cases h
     rename_i y;simp only [az,jt] at y;obtain ⟨M,L⟩:=y;obtain ⟨m,G,h⟩:=av h;obtain ⟨m1,m2⟩:=Ee G (by rw [L,M]);have r:v.size=n*tr.length:=by rw [M,<-L];simpa using j.length
     rw [m2] at j;refine ⟨_,h,.mkR (d:=w.drawn) (q:=(Rf.of w.heap.size (n) (n))) (x:=.slice (some ⟨w.heap.size,0,none⟩) n n) (ob:=.cells v e) ?_ rfl rfl
      ⟨v,e,(0,0),rfl,m1,aY _,by rw [r];simp,?_,.inr (sX _)⟩ ?_⟩
     ·simp only [execOp,J,aw,p,ay,aD]
     ·rw [<-Gs ι m _ j,m1];simp only [cM];exact i7 (by rw [Ln,r];exact aY _)
     ·simp only [VR];exact .inl ⟨_,dF _ _ _,rfl⟩
    ·refine ⟨_,h,.mk (x:=.slice (some ⟨w.heap.size,0,none⟩) n n) (ob:=.cells v e) ?_ ⟨v,e,(0,0),rfl,VRs.mono (pj V) _ _ j,sX _⟩ ?_⟩
     ·simp only [execOp,J,aw,p,ay,aD]
     ·simp only [VR];exact ⟨_,n,dF _ _ _,λm G=>by simpa using G,aY _,rfl⟩
   ·cases h
  ·cases h
 ·cases h
theorem NI {t:TypeId} {x:Operand} (g:o.op=.range t x) (d:TR ι s.T a.tmps) (h:effK P (opd s.T) s.H f (.range t x) c=some z):
  ∃e,c e=some z/\gJ P ι f o a w e:=by
 simp only [effK] at h;split at h
 ·rename_i i;split at h
  ·rename_i l hx;have b:=bu d hx;simp only [VR] at b;refine ⟨_,h,.mk (x:=.pointer (some ⟨w.heap.size,0,none⟩)) (ob:=.stringIter ⟨l.toArray⟩ 0) ?_ rfl (by simp only [VR];exact ⟨_,dF _ _ _,rfl⟩)⟩;simp only [execOp,g,Instr.range,aw,ay,aV i,b,aD,xU,xi]
  ·cases h
 ·cases h
end ops
end Go.Abs
