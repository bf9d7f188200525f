
/- The abstract effect of an operation is what the model's own operation does: all operations but calls of Go functions.
   Conditions: none; generic over the program. -/
import Derived.Test.YthemneooekobkabGreatDoorAbsF
set_option linter.unusedSimpArgs false
set_option linter.unusedVariables false
namespace Go.Abs
variable {P:Program}
theorem pI (o j:Nat):padd o j=o+j:=by
 unfold padd;cases h:Nat.beq o 0 with
 | true=>have:o=0:=bK h;simp [this]
 | false=>rfl
theorem yG (j s:Nat):pmul j s=j*s:=by
 unfold pmul;cases h:Nat.beq s 1 with
 | true=>have:s=1:=bK h;simp [this]
 | false=>rfl
theorem oL {n j:Nat} {i:Int} (h:ix n i=some j):0<=i/\i<n/\j=i.toNat:=by
 unfold ix at h;split at h
 ·rename_i hc;simp only [au] at h;exact ⟨hc.1,hc.2,h.symm⟩
 ·cases h
theorem lZ {n j:Nat} {i:Int} (h:bx n i=some j):0<=i/\i<=n/\j=i.toNat:=by
 unfold bx at h;split at h
 ·rename_i hc;simp only [au] at h;exact ⟨hc.1,hc.2,h.symm⟩
 ·cases h
theorem pf {ι:Inj} {T:List (Nat×Option V)} {a:Act} (c:TR ι T a.tmps) {x:Option Operand} {l:Option Int} (h:rB (opd T) x=some l):
  (l=none/\x.map a.eval=none)\/∃k n,l=some n/\x.map a.eval=some (.int k n):=by
 unfold rB at h;split at h
 ·simp only [au] at h;subst h;exact .inl ⟨rfl,rfl⟩
 ·split at h
  ·rename_i k n b;simp only [au] at h;subst h;have:=bv c b;simp only [VR] at this;exact .inr ⟨k,n,rfl,by simp [this]⟩
  ·cases h
theorem xx {α:Type} {ι:Inj} {T:List (Nat×Option V)} {a:Act} (r:TR ι T a.tmps) {lo hi:Option Operand} {l h:Option Int} (x:rB (opd T) lo=some l)
  (s:rB (opd T) hi=some h) {n len:Nat} {isSlice:Bool} {c:Nat->Nat->Option α} {z:α} (e:(hiK n len h λh=>loK h l λl=>c h l)=some z):
  ∃H L,c H L=some z/\(h=none\/H<=n)/\(h=none->H=len)/\(h≠none->H<=n)/\L<=H/\(l=none->L=0)/\
   ∀w,(Instr.sliceBounds isSlice len n (lo.map a.eval) (hi.map a.eval) none).run P w=.ok (L,H,n) w:=by
 have i:∀{H:Nat},loK H l (c H)=some z->∃L,c H L=some z/\L<=H/\(l=none->L=0)/\
   ∀w,(match lo.map a.eval with | some v=>Instr.sliceBound v H .sliceB | none=>pure 0).run P w=.ok L w:=by
  intro H e;rcases pf r x with ⟨rfl,g⟩ | ⟨k,m,rfl,g⟩
  ·exact ⟨0,e,fU _,λ_=>rfl,λw=>by rw [g];rfl⟩
  ·simp only [loK] at e;obtain ⟨L,j,o⟩:=av e;obtain ⟨g0,q,rfl⟩:=lZ j;exact ⟨_,o,by omega,by simp,λw=>by rw [g];exact run_sliceBound w k m H .sliceB g0 q⟩
 rcases pf r s with ⟨rfl,g⟩ | ⟨k,m,rfl,g⟩
 ·simp only [hiK] at e;obtain ⟨L,j,o,p,d⟩:=i e;refine ⟨len,L,j,.inl rfl,λ_=>rfl,by simp,o,p,λw=>?_⟩;have d:=d w;rw [g];simp only [Instr.sliceBounds,aw,aD,ay,yq,br,aB];cases b:lo.map a.eval with
  | none=>rw [b] at d;simp only [aD,xK,wB] at d;simp [d]
  | some v=>rw [b] at d;simp only [] at d;simp [d]
 ·simp only [hiK] at e;obtain ⟨H,j,o⟩:=av e;obtain ⟨g0,q,rfl⟩:=lZ j;obtain ⟨L,p,d,u,f⟩:=i o;refine ⟨_,L,p,.inr (by omega),by simp,λ_=>by omega,d,u,λw=>?_⟩;have f:=f w;rw [g];have t:=run_sliceBound (P:=P) w k m n (if isSlice=true then .sliceAcap else .sliceAlen) g0 q;simp only [Instr.sliceBounds,aw,aD,ay,yq,br,aB,t];cases b:lo.map a.eval with
  | none=>rw [b] at f;simp only [aD,xK,wB] at f;simp [f]
  | some v=>rw [b] at f;simp only [] at f;simp [f]
section ops
variable {α:Type} {ι:Inj} {s:St} {a:Act} {w:World} {f:Nat} {o:Oper} {c:Eff->Option α} {z:α}
theorem OE {t:TypeId} {x:Operand} (D:o.op=.load t x) (B:TR ι s.T a.tmps) (C:WR ι s.H s.nb w) (h:effK P (opd s.T) s.H f (.load t x) c=some z):
  ∃e,c e=some z/\gO P ι f o a w e:=by
 simp only [effK] at h;split at h
 ·rename_i b off hx;split at h
  ·rename_i blk p;obtain ⟨v,X,r,u,K,n,A⟩:=HW C p h;have i:=bv B hx;simp only [VR] at i;obtain ⟨R,d,m⟩:=i;rw [K] at d;cases d;exact ⟨_,u,.val (by simp only [execOp,D,m,aw,n,ay,aD]) A⟩
  ·cases h
 ·rename_i W b j off hx;split at h
  case h_2=>cases h
  rename_i tr l p;split at h
  case h_2=>cases h
  rename_i y;have y:=bK y;subst y;obtain ⟨F,J,h⟩:=av h;have i:=bv B hx;simp only [VR] at i;obtain ⟨q,d,m⟩:=i;rcases jH C p with ⟨M,S,e,fr,g,L,N,Q,O,I,U⟩ | ⟨g,_⟩
  ·rw [d] at g;cases g;obtain ⟨G,V⟩:=QS I J;have E:l.length*tr.length<=q.k*tr.length:=oz _ (by omega);rw [<-iO] at m;obtain ⟨v,X,u,n,A⟩:=Qk (o:=off) L (by rw [k7,G];exact (nV ι tr F _).2 rfl) (by rw [k7];omega) h;exact ⟨_,u,.val (by simp only [execOp,D,m,aw,n,ay,aD]) A⟩
  ·rw [d] at g;cases g
 ·cases h
theorem J6 {t:TypeId} {x y:Operand} (R:o.op=.store t x y) (A:TR ι s.T a.tmps) (O:WR ι s.H s.nb w) (h:effK P (opd s.T) s.H f (.store t x y) c=some z):
  ∃e,c e=some z/\gO P ι f o a w e:=by
 simp only [effK] at h;split at h
 ·rename_i b off hx;obtain ⟨v,hy,h⟩:=av h;split at h
  ·rename_i blk E;obtain ⟨N,G,r,g,L,D,M⟩:=LR O E (bv A hy) h;have p:=bv A hx;simp only [VR] at p;obtain ⟨r',d,B⟩:=p;rw [L] at d;cases d;refine ⟨_,g,?_⟩;unfold gO;exact ⟨r,L,λ_=>⟨G,.skip,by simp only [execOp,R,B,aw,D,ay,aD],M,.skip rfl⟩⟩
  ·cases h
 ·rename_i zz b j off hx;obtain ⟨v,hy,U⟩:=av h;clear h;have h:=U;clear U;split at h
  case h_2=>cases h
  rename_i tr l E;split at h
  case h_2=>cases h
  rename_i m;have m:=bK m;subst m;obtain ⟨xr,J,h⟩:=av h;have p:=bv A hx;simp only [VR] at p;obtain ⟨q,d,B⟩:=p;rcases jH O E with ⟨q',Q,e,fr,i,g2,V,Z,Y,S,g7⟩ | ⟨i,_⟩
  ·rw [d] at i;cases i;obtain ⟨r1,r2⟩:=QS S J;have W:l.length*tr.length<=q.k*tr.length:=oz _ (by omega);rw [<-iO] at B;obtain ⟨l',X,g,L,D,M⟩:=Kq (o:=off) (fr:=fr) g2 (by rw [k7,r1];exact (nV ι tr xr _).2 rfl) (by rw [k7];omega) (bv A hy) h;simp only at g;obtain ⟨C,K,g⟩:=av g;have hX:X=vals tr C:=(nV ι tr C X).1 (by rw [<-wm K];exact D);subst hX;have F:j<l.length:=by
    rcases aG j l.length with I | I
    ·exact I
    ·rw [ii I] at J;cases J
   have n:(splA Q (q.o+j*tr.length) (vals tr C)).size=Q.size:=w9 (by rw [kj];omega);refine ⟨_,g,?_⟩;unfold gO;refine ⟨q,d,λm=>?_⟩;have u:=g7.resolve_left (by rw [m];simp);refine ⟨_,.skip,by simp only [execOp,R,B,aw,M u,ay,aD];rfl,⟨_,e,fr,rfl,by rw [List.length_set];exact V,Z,by rw [n];exact Y,?_,.inr (by rw [n];exact u)⟩,.skip rfl⟩;exact Pq (by omega) S C F
  ·rw [d] at i;cases i
 ·cases h
theorem MJ {t:TypeId} (g:o.op=.alloc t) (h:effK P (opd s.T) s.H f (.alloc t) c=some z):∃e,c e=some z/\gO P ι f o a w e:=by
 simp only [effK] at h;obtain ⟨v,b,h⟩:=av h;obtain ⟨x,i,l,k,d,j⟩:=vP (upd ι f (some (Rf.of w.heap.size (0) (0)))) b;refine ⟨_,h,.mk (x:=.pointer (some ⟨w.heap.size,0,none⟩)) (ob:=.cells x.cells t) ?_ (Hh (Uc d) t) ?_⟩
 ·simp only [execOp,g,Instr.alloc,aw,j,ay,newVar,newRow,xN,aD,xz]
 ·simp only [VR];exact ⟨_,dH _ _ _,rfl⟩
theorem RS {t:TypeId} {x:Operand} (d:o.op=.box t x) (i:TR ι s.T a.tmps) (g:ι f=none) (h:effK P (opd s.T) s.H f (.box t x) c=some z):
  ∃e,c e=some z/\gO P ι f o a w e:=by
 simp only [effK] at h;obtain ⟨v,b,h⟩:=av h;have hv':=bv i b;refine ⟨_,h,.mk (x:=.pointer (some ⟨w.heap.size,0,none⟩)) (ob:=.cells (a.eval x).cells t) ?_ (Hh (VR.mono (pS g) _ _ hv') t) ?_⟩
 ·simp only [execOp,d,Instr.box,aw,ay,newVar,newRow,xN,aD,xz]
 ·simp only [VR];exact ⟨_,dH _ _ _,rfl⟩
theorem Jk (a:List Field) (h:(a.all λfd=>Nat.blt 0 (P.cellsOf fd.type))=true) (w:World):
  (a.mapM λ(f:Field)=>do pure (f.offset,<-sizeOf f.type)).run P w=.ok (C2 P a) w:=by
 induction a with
 | nil=>rfl
 | cons fd a ih=>
  simp only [m6,aA] at h;obtain ⟨i,hi⟩:=ca h.1;have ih:=ih h.2;simp only [FC,aw,gq hi,ay,aD,ih];rfl
theorem Kw {t:TypeId} {g:Array (Nat×Operand)} (F:o.op=.build t g) (J:TR ι s.T a.tmps) (h:effK P (opd s.T) s.H f (.build t g) c=some z):
  ∃e,c e=some z/\gO P ι f o a w e:=by
 simp only [effK] at h;obtain ⟨L,u,h⟩:=av h;obtain ⟨A,hp,h⟩:=av h;obtain ⟨x,i,N,O,I,G⟩:=vP ι u;obtain ⟨E,D⟩:=ve J _ _ hp;have q:=nI I;have k:(g.map λ(i,x)=>(i,a.eval x)).toList=g.toList.map λ(i,x)=>(i,a.eval x):=by simp
 split at h
 ·rename_i m B;split at h
  ·rename_i p;obtain ⟨l,v,h⟩:=av h;obtain ⟨r,b,d⟩:=vZ _ _ (g.toList.map λ(i,x)=>(i,a.eval x)) _ _ _ q E (by simp [VRs]) D v;refine ⟨_,h,.val (x:=.agg r) ?_ (by simp only [VR];exact ⟨r,rfl,d⟩)⟩;have K:(m.mapM λ(f:Field)=>do pure (f.offset,<-sizeOf f.type)).run P w=.ok (C2 P m.toList).toArray w:=by
    rw [QZ];simp only [Sem.run_map,Jk m.toList p,ay]
   have y:(λ(i:Nat)=>(C2 P m.toList).toArray[i]?)=λ(i:Nat)=>(C2 P m.toList)[i]?:=by
    funext i;simp
   simp only [execOp,F,Instr.build,aw,G,ay,aV B,K,y,k,b,aD]
  ·cases h
 ·rename_i n e B;split at h
  ·rename_i j;obtain ⟨M,C⟩:=ca j;obtain ⟨l,v,h⟩:=av h;obtain ⟨r,b,d⟩:=vZ _ _ (g.toList.map λ(i,x)=>(i,a.eval x)) _ _ _ q E (by simp [VRs]) D v;refine ⟨_,h,.val (x:=.agg r) ?_ (qw d)⟩;simp only [execOp,F,Instr.build,aw,G,ay,aV B,gq C,k,b,aD]
  ·cases h
 ·cases h
theorem xk (l:List V):∀n,(AL l n).length=n*l.length
 | 0=>by simp [AL]
 | n+1=>by simp [AL,xk l n,hO,qL]
theorem OA {ι:Inj} {l:List V} {a:Array Value} (h:VRs ι l a.toList) (m:0<l.length):∀n,VRs ι (AL l n) ((Array.range (n*l.length)).map (a[·%a.size]!)).toList:=by
 have b:a.size=l.length:=by simpa using h.length
 intro n;refine VRs.of_get (by simp [xk]) λj v x e hx=>?_;have key:∀n j v,(AL l n)[j]?=some v->l[j%l.length]?=some v:=by
  intro n
  induction n with
  | zero=>intro j v h;simp [AL] at h
  | succ n ih=>
   intro j v h;simp only [AL] at h;by_cases c:j<l.length
   ·rw [oc c] at h;rw [qR c];exact h
   ·rw [qA (by omega)] at h;have:=ih _ _ h;rwa [<-Nat.mod_eq_sub_mod (by omega)] at this
 have k:=key n j v e;obtain ⟨y,hy,f⟩:=h.get k;have d:j<n*l.length:=by
  rcases aG j (n*l.length) with i | i
  ·exact i
  ·rw [ii (by rw [xk];omega)] at e;cases e
 have g:j%l.length<a.size:=by rw [b];exact BN _ m
 have:x=a[j%a.size]! := by
  simp [d] at hx;exact hx.symm
 rw [this,b];have hy':a[j%l.length]?=some y:=by simpa using hy
 have:a[j%l.length]! = y:=by
  rw [getElem!_def,hy']
 rw [this];exact f
theorem yS {t e:TypeId} {n:Nat} {zc:Value} {i:TypeInfo} {g:Array (Nat×Value)} {h:Array Value} {w:World} (k:P.underlying t=some (.slice e)) (hi:P.info? e=some i)
  (d:n*P.cellsOf e<=1000) (j:∀w,(zeroValue e).run P w=.ok zc w)
  (a:Instr.fill (λi=>some (i*P.cellsOf e,P.cellsOf e)) ((Array.range (n*P.cellsOf e)).map (zc.cells[·%zc.cells.size]!)) g.toList=some h):
  (Instr.buildSlice t n g).run P w=.ok (.slice (some ⟨w.heap.size,0,none⟩) n n) (w.alloc (.cells h e)):=by
 have c:¬(n*P.cellsOf e>2 ^ 24):=Nat.not_lt.2 (rq d (by decide));unfold Instr.buildSlice;simp only [aw,ay,aV k,gq hi];rw [ab c];by_cases f:n*P.cellsOf e=0
 ·rw [ae f];have b:Array.range 0=#[]:=rfl;rw [f] at a ⊢;rw [b,H5] at a;simp only [aw,aD,ay,b,H5,a,newRow,xN,xz]
 ·rw [ab f];simp only [aw,j,aD,ay,a,newRow,xN,xz]
theorem yU {t:TypeId} {n:Nat} {A:Array (Nat×Operand)} (M:o.op=.buildSlice t n A) (S:TR ι s.T a.tmps) (W:ι f=none) (h:effK P (opd s.T) s.H f (.buildSlice t n A) c=some z):
  ∃e,c e=some z/\gO P ι f o a w e:=by
 simp only [effK] at h;split at h
 ·rename_i e V;split at h
  ·rename_i L;simp only [aA] at L;obtain ⟨C,r⟩:=L;obtain ⟨Z,G⟩:=ca r;obtain ⟨Y,B,h⟩:=av h;obtain ⟨D,hp,h⟩:=av h;split at h
   ·rename_i b;have b:=bK b;obtain ⟨l,Q,h⟩:=av h;obtain ⟨x,i,h1,h2,O,X⟩:=vP ι B;obtain ⟨U,N⟩:=ve S _ _ hp;have I:=nI O;have F:(A.map λ(i,x)=>(i,a.eval x)).toList=A.toList.map λ(i,x)=>(i,a.eval x):=by simp
    have hpos':0<P.cellsOf e:=aI r;have v:=OA I (by omega) n;rw [b] at v;obtain ⟨u,g,j⟩:=vZ _ _ (A.toList.map λ(i,x)=>(i,a.eval x)) _ _ _ v U (by simp [VRs]) N Q;rw [<-F] at g;have p:=yS (w:=w) V G (aI C) X g;split at h
    ·rename_i tr R;split at h
     case h_2=>cases h
     rename_i y;simp only [aA,ju] at y;obtain ⟨K,J⟩:=y;obtain ⟨m,E,h⟩:=av h;obtain ⟨m1,m2⟩:=Ey E (by rw [J,K]);have k:u.size=n*tr.length:=by rw [K,<-J];simpa using j.length
     rw [m2] at j;refine ⟨_,h,.mkR (d:=w.drawn) (q:=(Rf.of w.heap.size (n) (n))) (x:=.slice (some ⟨w.heap.size,0,none⟩) n n) (ob:=.cells u e) ?_ rfl rfl
      ⟨u,e,(0,0),rfl,m1,aW _,by rw [k];simp,?_,.inr (tH _)⟩ ?_⟩
     ·simp only [execOp,M,aw,p,ay,aD]
     ·rw [<-G7 ι m _ j,m1];simp only [cf];exact ji (by rw [MS,k];exact aW _)
     ·simp only [VR];exact .inl ⟨_,dH _ _ _,rfl⟩
    ·refine ⟨_,h,.mk (x:=.slice (some ⟨w.heap.size,0,none⟩) n n) (ob:=.cells u e) ?_ ⟨u,e,(0,0),rfl,VRs.mono (pS W) _ _ j,tH _⟩ ?_⟩
     ·simp only [execOp,M,aw,p,ay,aD]
     ·simp only [VR];exact ⟨_,n,dH _ _ _,λm E=>by simpa using E,aW _,rfl⟩
   ·cases h
  ·cases h
 ·cases h
theorem KZ {t:TypeId} {x:Operand} (d:o.op=.range t x) (i:TR ι s.T a.tmps) (h:effK P (opd s.T) s.H f (.range t x) c=some z):
  ∃e,c e=some z/\gO P ι f o a w e:=by
 simp only [effK] at h;split at h
 ·rename_i g;split at h
  ·rename_i l hx;have b:=bv i hx;simp only [VR] at b;refine ⟨_,h,.mk (x:=.pointer (some ⟨w.heap.size,0,none⟩)) (ob:=.stringIter ⟨l.toArray⟩ 0) ?_ rfl (by simp only [VR];exact ⟨_,dH _ _ _,rfl⟩)⟩;simp only [execOp,d,Instr.range,aw,ay,aV g,b,aD,xN,xz]
  ·cases h
 ·cases h
end ops
end Go.Abs
