
/- The abstract effect of an operation is what the model's own operation does: all operations but calls of Go functions.
   Conditions: none; generic over the program. -/
import Derived.Test.YthemneooekobkaaGreatDoorAbsF
set_option linter.unusedSimpArgs false
set_option linter.unusedVariables false
namespace Go.Abs
variable {P:Program}
theorem nP (o j:Nat):padd o j=o+j:=by
 unfold padd;cases h:Nat.beq o 0 with
 | true=>have:o=0:=bm h;simp [this]
 | false=>rfl
theorem vV (j s:Nat):pmul j s=j*s:=by
 unfold pmul;cases h:Nat.beq s 1 with
 | true=>have:s=1:=bm h;simp [this]
 | false=>rfl
theorem mF {n j:Nat} {i:Int} (h:ix n i=some j):0<=i/\i<n/\j=i.toNat:=by
 unfold ix at h;split at h
 ·rename_i hc;simp only [am] at h;exact ⟨hc.1,hc.2,h.symm⟩
 ·cases h
theorem kD {n j:Nat} {i:Int} (h:bx n i=some j):0<=i/\i<=n/\j=i.toNat:=by
 unfold bx at h;split at h
 ·rename_i hc;simp only [am] at h;exact ⟨hc.1,hc.2,h.symm⟩
 ·cases h
theorem mN {ι:Inj} {T:List (Nat×Option V)} {a:Act} (c:TR ι T a.tmps) {x:Option Operand} {l:Option Int} (h:o5 (opd T) x=some l):
  (l=none/\x.map a.eval=none)\/∃k n,l=some n/\x.map a.eval=some (.int k n):=by
 unfold o5 at h;split at h
 ·simp only [am] at h;subst h;exact .inl ⟨rfl,rfl⟩
 ·split at h
  ·rename_i k n b;simp only [am] at h;subst h;have:=bh c b;simp only [VR] at this;exact .inr ⟨k,n,rfl,by simp [this]⟩
  ·cases h
theorem uO {α:Type} {ι:Inj} {T:List (Nat×Option V)} {a:Act} (r:TR ι T a.tmps) {lo hi:Option Operand} {l h:Option Int} (s:o5 (opd T) lo=some l)
  (t:o5 (opd T) hi=some h) {n len:Nat} {isSlice:Bool} {c:Nat->Nat->Option α} {z:α} (e:(hiK n len h λh=>loK h l λl=>c h l)=some z):
  ∃H L,c H L=some z/\(h=none\/H<=n)/\(h=none->H=len)/\(h≠none->H<=n)/\L<=H/\(l=none->L=0)/\
   ∀w,(Instr.sliceBounds isSlice len n (lo.map a.eval) (hi.map a.eval) none).run P w=.ok (L,H,n) w:=by
 have o:∀{H:Nat},loK H l (c H)=some z->∃L,c H L=some z/\L<=H/\(l=none->L=0)/\
   ∀w,(match lo.map a.eval with | some v=>Instr.sliceBound v H .sliceB | none=>pure 0).run P w=.ok L w:=by
  intro H e;rcases mN r s with ⟨rfl,g⟩ | ⟨k,m,rfl,g⟩
  ·exact ⟨0,e,qT _,λ_=>rfl,λw=>by rw [g];rfl⟩
  ·simp only [loK] at e;obtain ⟨L,i,j⟩:=au e;obtain ⟨g0,p,rfl⟩:=kD i;exact ⟨_,j,by omega,by simp,λw=>by rw [g];exact run_sliceBound w k m H .sliceB g0 p⟩
 rcases mN r t with ⟨rfl,g⟩ | ⟨k,m,rfl,g⟩
 ·simp only [hiK] at e;obtain ⟨L,i,j,q,d⟩:=o e;refine ⟨len,L,i,.inl rfl,λ_=>rfl,by simp,j,q,λw=>?_⟩;have d:=d w;rw [g];simp only [Instr.sliceBounds,av,az,ax,uZ,cE,aG];cases b:lo.map a.eval with
  | none=>rw [b] at d;simp only [az,vz,sN] at d;simp [d]
  | some v=>rw [b] at d;simp only [] at d;simp [d]
 ·simp only [hiK] at e;obtain ⟨H,i,j⟩:=au e;obtain ⟨g0,p,rfl⟩:=kD i;obtain ⟨L,q,d,u,f⟩:=o j;refine ⟨_,L,q,.inr (by omega),by simp,λ_=>by omega,d,u,λw=>?_⟩;have f:=f w;rw [g];have x:=run_sliceBound (P:=P) w k m n (if isSlice=true then .sliceAcap else .sliceAlen) g0 p;simp only [Instr.sliceBounds,av,az,ax,uZ,cE,aG,x];cases b:lo.map a.eval with
  | none=>rw [b] at f;simp only [az,vz,sN] at f;simp [f]
  | some v=>rw [b] at f;simp only [] at f;simp [f]
section ops
variable {α:Type} {ι:Inj} {s:St} {a:Act} {w:World} {f:Nat} {o:Oper} {c:Eff->Option α} {z:α}
theorem KG {t:TypeId} {x:Operand} (C:o.op=.load t x) (D:TR ι s.T a.tmps) (B:WR ι s.H s.nb w) (h:effK P (opd s.T) s.H f (.load t x) c=some z):
  ∃e,c e=some z/\fp P ι f o a w e:=by
 simp only [effK] at h;split at h
 ·rename_i b off hx;split at h
  ·rename_i blk y;obtain ⟨v,X,r,A,K,n,u⟩:=En B y h;have g:=bh D hx;simp only [VR] at g;obtain ⟨Q,i,m⟩:=g;rw [K] at i;cases i;exact ⟨_,A,.val (by simp only [execOp,C,m,av,n,ax,az]) u⟩
  ·cases h
 ·rename_i M b j off hx;split at h
  case h_2=>cases h
  rename_i tr l y;split at h
  case h_2=>cases h
  rename_i p;have p:=bm p;subst p;obtain ⟨E,I,h⟩:=au h;have g:=bh D hx;simp only [VR] at g;obtain ⟨q,i,m⟩:=g;rcases iv B y with ⟨N,U,e,fr,d,J,V,O,R,L,W⟩ | ⟨d,_⟩
  ·rw [i] at d;cases d;obtain ⟨G,S⟩:=MG L I;have F:l.length*tr.length<=q.k*tr.length:=mK _ (by omega);rw [<-il] at m;obtain ⟨v,X,A,n,u⟩:=J0 (o:=off) J (by rw [jH,G];exact (mn ι tr E _).2 rfl) (by rw [jH];omega) h;exact ⟨_,A,.val (by simp only [execOp,C,m,av,n,ax,az]) u⟩
  ·rw [i] at d;cases d
 ·cases h
theorem Jc {t:TypeId} {x y:Operand} (O:o.op=.store t x y) (C:TR ι s.T a.tmps) (N:WR ι s.H s.nb w) (h:effK P (opd s.T) s.H f (.store t x y) c=some z):
  ∃e,c e=some z/\fp P ι f o a w e:=by
 simp only [effK] at h;split at h
 ·rename_i b off hx;obtain ⟨v,hy,h⟩:=au h;split at h
  ·rename_i blk I;obtain ⟨U,M,r,g,J,D,G⟩:=G2 N I (bh C hy) h;have u:=bh C hx;simp only [VR] at u;obtain ⟨r',d,B⟩:=u;rw [J] at d;cases d;refine ⟨_,g,?_⟩;unfold fp;exact ⟨r,J,λ_=>⟨M,.skip,by simp only [execOp,O,B,av,D,ax,az],G,.skip rfl⟩⟩
  ·cases h
 ·rename_i zz b j off hx;obtain ⟨v,hy,S⟩:=au h;clear h;have h:=S;clear S;split at h
  case h_2=>cases h
  rename_i tr l I;split at h
  case h_2=>cases h
  rename_i n;have n:=bm n;subst n;obtain ⟨V,F,h⟩:=au h;have u:=bh C hx;simp only [VR] at u;obtain ⟨q,d,B⟩:=u;rcases iv N I with ⟨q',Q,e,fr,m,g2,g3,Y,g5,R,g7⟩ | ⟨m,_⟩
  ·rw [d] at m;cases m;obtain ⟨Z,r2⟩:=MG R F;have W:l.length*tr.length<=q.k*tr.length:=mK _ (by omega);rw [<-il] at B;obtain ⟨l',X,g,J,D,G⟩:=Hu (o:=off) (fr:=fr) g2 (by rw [jH,Z];exact (mn ι tr V _).2 rfl) (by rw [jH];omega) (bh C hy) h;simp only at g;obtain ⟨A,L,g⟩:=au g;have hX:X=vals tr A:=(mn ι tr A X).1 (by rw [<-uc L];exact D);subst hX;have E:j<l.length:=by
    rcases aH j l.length with K | K
    ·exact K
    ·rw [eF K] at F;cases F
   have p:(splA Q (q.o+j*tr.length) (vals tr A)).size=Q.size:=ug (by rw [fA];omega);refine ⟨_,g,?_⟩;unfold fp;refine ⟨q,d,λn=>?_⟩;have i:=g7.resolve_left (by rw [n];simp);refine ⟨_,.skip,by simp only [execOp,O,B,av,G i,ax,az];rfl,⟨_,e,fr,rfl,by rw [BC];exact g3,Y,by rw [p];exact g5,?_,.inr (by rw [p];exact i)⟩,.skip rfl⟩;exact J3 (by omega) R A E
  ·rw [d] at m;cases m
 ·cases h
theorem Ji {t:TypeId} (d:o.op=.alloc t) (h:effK P (opd s.T) s.H f (.alloc t) c=some z):∃e,c e=some z/\fp P ι f o a w e:=by
 simp only [effK] at h;obtain ⟨v,g,h⟩:=au h;obtain ⟨x,i,l,k,b,j⟩:=tQ (upd ι f (some (Rf.of w.heap.size (0) (0)))) g;refine ⟨_,h,.mk (x:=.pointer (some ⟨w.heap.size,0,none⟩)) (ob:=.cells x.cells t) ?_ (E7 (OZ b) t) ?_⟩
 ·simp only [execOp,d,Instr.alloc,av,j,ax,newVar,newRow,ur,az,vw]
 ·simp only [VR];exact ⟨_,cT _ _ _,rfl⟩
theorem Ph {t:TypeId} {x:Operand} (d:o.op=.box t x) (b:TR ι s.T a.tmps) (i:ι f=none) (h:effK P (opd s.T) s.H f (.box t x) c=some z):
  ∃e,c e=some z/\fp P ι f o a w e:=by
 simp only [effK] at h;obtain ⟨v,g,h⟩:=au h;have hv':=bh b g;refine ⟨_,h,.mk (x:=.pointer (some ⟨w.heap.size,0,none⟩)) (ob:=.cells (a.eval x).cells t) ?_ (E7 (VR.mono (n7 i) _ _ hv') t) ?_⟩
 ·simp only [execOp,d,Instr.box,av,ax,newVar,newRow,ur,az,vw]
 ·simp only [VR];exact ⟨_,cT _ _ _,rfl⟩
theorem FK (a:List Field) (h:(a.all λfd=>Nat.blt 0 (P.cellsOf fd.type))=true) (w:World):
  (a.mapM λ(f:Field)=>do pure (f.offset,<-sizeOf f.type)).run P w=.ok (zL P a) w:=by
 induction a with
 | nil=>rfl
 | cons fd a ih=>
  simp only [mV,ay] at h;obtain ⟨i,hi⟩:=bL h.1;have ih:=ih h.2;simp only [uC,av,eN hi,ax,az,ih];rfl
theorem G1 {t:TypeId} {g:Array (Nat×Operand)} (G:o.op=.build t g) (J:TR ι s.T a.tmps) (h:effK P (opd s.T) s.H f (.build t g) c=some z):
  ∃e,c e=some z/\fp P ι f o a w e:=by
 simp only [effK] at h;obtain ⟨M,C,h⟩:=au h;obtain ⟨B,hp,h⟩:=au h;obtain ⟨x,i,O,N,I,F⟩:=tQ ι C;obtain ⟨E,D⟩:=sM J _ _ hp;have k:=lV I;have m:(g.map λ(i,x)=>(i,a.eval x)).toList=g.toList.map λ(i,x)=>(i,a.eval x):=by simp
 split at h
 ·rename_i p u;split at h
  ·rename_i q;obtain ⟨l,A,h⟩:=au h;obtain ⟨r,b,d⟩:=tU _ _ (g.toList.map λ(i,x)=>(i,a.eval x)) _ _ _ k E (by simp [VRs]) D A;refine ⟨_,h,.val (x:=.agg r) ?_ (by simp only [VR];exact ⟨r,rfl,d⟩)⟩;have K:(p.mapM λ(f:Field)=>do pure (f.offset,<-sizeOf f.type)).run P w=.ok (zL P p.toList).toArray w:=by
    rw [Nh];simp only [Sem.run_map,FK p.toList q,ax]
   have y:(λ(i:Nat)=>(zL P p.toList).toArray[i]?)=λ(i:Nat)=>(zL P p.toList)[i]?:=by
    funext i;simp
   simp only [execOp,G,Instr.build,av,F,ax,aV u,K,y,m,b,az]
  ·cases h
 ·rename_i n e u;split at h
  ·rename_i j;obtain ⟨L,v⟩:=bL j;obtain ⟨l,A,h⟩:=au h;obtain ⟨r,b,d⟩:=tU _ _ (g.toList.map λ(i,x)=>(i,a.eval x)) _ _ _ k E (by simp [VRs]) D A;refine ⟨_,h,.val (x:=.agg r) ?_ (nz d)⟩;simp only [execOp,G,Instr.build,av,F,ax,aV u,eN v,m,b,az]
  ·cases h
 ·cases h
theorem uK (l:List V):∀n,(yg l n).length=n*l.length
 | 0=>by simp [yg]
 | n+1=>by simp [yg,uK l n,fL,qI]
theorem Kt {ι:Inj} {l:List V} {a:Array Value} (h:VRs ι l a.toList) (k:0<l.length):∀n,VRs ι (yg l n) ((Array.range (n*l.length)).map (a[·%a.size]!)).toList:=by
 have c:a.size=l.length:=by simpa using h.length
 intro n;refine VRs.of_get (by simp [uK]) λj v x f hx=>?_;have key:∀n j v,(yg l n)[j]?=some v->l[j%l.length]?=some v:=by
  intro n
  induction n with
  | zero=>intro j v h;simp [yg] at h
  | succ n ih=>
   intro j v h;simp only [yg] at h;by_cases b:j<l.length
   ·rw [mi b] at h;rw [ov b];exact h
   ·rw [oe (by omega)] at h;have:=ih _ _ h;rwa [<-Nat.mod_eq_sub_mod (by omega)] at this
 have m:=key n j v f;obtain ⟨y,hy,d⟩:=h.get m;have e:j<n*l.length:=by
  rcases aH j (n*l.length) with g | g
  ·exact g
  ·rw [eF (by rw [uK];omega)] at f;cases f
 have i:j%l.length<a.size:=by rw [c];exact oI _ k
 have:x=a[j%a.size]! := by
  simp [e] at hx;exact hx.symm
 rw [this,c];have hy':a[j%l.length]?=some y:=by simpa using hy
 have:a[j%l.length]! = y:=by
  rw [getElem!_def,hy']
 rw [this];exact d
theorem ww {t e:TypeId} {n:Nat} {zc:Value} {i:TypeInfo} {h:Array (Nat×Value)} {g:Array Value} {w:World} (j:P.underlying t=some (.slice e)) (hi:P.info? e=some i)
  (d:n*P.cellsOf e<=1000) (k:∀w,(zeroValue e).run P w=.ok zc w)
  (a:Instr.fill (λi=>some (i*P.cellsOf e,P.cellsOf e)) ((Array.range (n*P.cellsOf e)).map (zc.cells[·%zc.cells.size]!)) h.toList=some g):
  (Instr.buildSlice t n h).run P w=.ok (.slice (some ⟨w.heap.size,0,none⟩) n n) (w.alloc (.cells g e)):=by
 have c:¬(n*P.cellsOf e>2 ^ 24):=Nat.not_lt.2 (o6 d (by decide));unfold Instr.buildSlice;simp only [av,ax,aV j,eN hi];rw [ab c];by_cases f:n*P.cellsOf e=0
 ·rw [ad f];have b:Array.range 0=#[]:=rfl;rw [f] at a ⊢;rw [b,Fo] at a;simp only [av,az,ax,b,Fo,a,newRow,ur,vw]
 ·rw [ab f];simp only [av,k,az,ax,a,newRow,ur,vw]
theorem wu {t:TypeId} {n:Nat} {v:Array (Nat×Operand)} (K:o.op=.buildSlice t n v) (X:TR ι s.T a.tmps) (O:ι f=none) (h:effK P (opd s.T) s.H f (.buildSlice t n v) c=some z):
  ∃e,c e=some z/\fp P ι f o a w e:=by
 simp only [effK] at h;split at h
 ·rename_i e N;split at h
  ·rename_i L;simp only [ay] at L;obtain ⟨C,k⟩:=L;obtain ⟨Y,B⟩:=bL k;obtain ⟨Z,I,h⟩:=au h;obtain ⟨F,hp,h⟩:=au h;split at h
   ·rename_i b;have b:=bm b;obtain ⟨l,U,h⟩:=au h;obtain ⟨x,i,h1,h2,Q,V⟩:=tQ ι I;obtain ⟨S,R⟩:=sM X _ _ hp;have D:=lV Q;have E:(v.map λ(i,x)=>(i,a.eval x)).toList=v.toList.map λ(i,x)=>(i,a.eval x):=by simp
    have hpos':0<P.cellsOf e:=aD k;have A:=Kt D (by omega) n;rw [b] at A;obtain ⟨y,g,j⟩:=tU _ _ (v.toList.map λ(i,x)=>(i,a.eval x)) _ _ _ A S (by simp [VRs]) R U;rw [<-E] at g;have p:=ww (w:=w) N B (aD C) V g;split at h
    ·rename_i tr W;split at h
     case h_2=>cases h
     rename_i u;simp only [ay,io] at u;obtain ⟨M,J⟩:=u;obtain ⟨m,G,h⟩:=au h;obtain ⟨m1,m2⟩:=AG G (by rw [J,M]);have r:y.size=n*tr.length:=by rw [M,<-J];simpa using j.length
     rw [m2] at j;refine ⟨_,h,.mkR (d:=w.drawn) (q:=(Rf.of w.heap.size (n) (n))) (x:=.slice (some ⟨w.heap.size,0,none⟩) n n) (ob:=.cells y e) ?_ rfl rfl
      ⟨y,e,(0,0),rfl,m1,aW _,by rw [r];simp,?_,.inr (qJ _)⟩ ?_⟩
     ·simp only [execOp,K,av,p,ax,az]
     ·rw [<-Ds ι m _ j,m1];simp only [jO];exact gX (by rw [I6,r];exact aW _)
     ·simp only [VR];exact .inl ⟨_,cT _ _ _,rfl⟩
    ·refine ⟨_,h,.mk (x:=.slice (some ⟨w.heap.size,0,none⟩) n n) (ob:=.cells y e) ?_ ⟨y,e,(0,0),rfl,VRs.mono (n7 O) _ _ j,qJ _⟩ ?_⟩
     ·simp only [execOp,K,av,p,ax,az]
     ·simp only [VR];exact ⟨_,n,cT _ _ _,λm G=>by simpa using G,aW _,rfl⟩
   ·cases h
  ·cases h
 ·cases h
theorem Jw {t:TypeId} {x:Operand} (g:o.op=.range t x) (d:TR ι s.T a.tmps) (h:effK P (opd s.T) s.H f (.range t x) c=some z):
  ∃e,c e=some z/\fp P ι f o a w e:=by
 simp only [effK] at h;split at h
 ·rename_i i;split at h
  ·rename_i l hx;have b:=bh d hx;simp only [VR] at b;refine ⟨_,h,.mk (x:=.pointer (some ⟨w.heap.size,0,none⟩)) (ob:=.stringIter ⟨l.toArray⟩ 0) ?_ rfl (by simp only [VR];exact ⟨_,cT _ _ _,rfl⟩)⟩;simp only [execOp,g,Instr.range,av,ax,aV i,b,az,ur,vw]
  ·cases h
 ·cases h
end ops
end Go.Abs
