
/- The abstract effect of an operation is what the model's own operation does: all operations but calls of Go functions.
   Conditions: none; generic over the program. -/
import Derived.Test.YtaogbalpingjhaaGreatDoorAbsF
set_option linter.unusedSimpArgs false
set_option linter.unusedVariables false
namespace Go.Abs
variable {P:Program}
theorem nu (o j:Nat):padd o j=o+j:=by
 unfold padd;cases h:Nat.beq o 0 with
 | true=>have:o=0:=be h;simp [this]
 | false=>rfl
theorem uC (j s:Nat):pmul j s=j*s:=by
 unfold pmul;cases h:Nat.beq s 1 with
 | true=>have:s=1:=be h;simp [this]
 | false=>rfl
theorem mc {n j:Nat} {i:Int} (h:ix n i=some j):0<=i/\i<n/\j=i.toNat:=by
 unfold ix at h;split at h
 ·rename_i hc;simp only [ah] at h;exact ⟨hc.1,hc.2,h.symm⟩
 ·cases h
theorem jK {n j:Nat} {i:Int} (h:bx n i=some j):0<=i/\i<=n/\j=i.toNat:=by
 unfold bx at h;split at h
 ·rename_i hc;simp only [ah] at h;exact ⟨hc.1,hc.2,h.symm⟩
 ·cases h
theorem mO {ι:Inj} {T:List (Nat×Option V)} {a:Act} (b:TR ι T a.tmps) {x:Option Operand} {l:Option Int} (h:oq (opd T) x=some l):
  (l=none/\x.map a.eval=none)\/∃k n,l=some n/\x.map a.eval=some (.int k n):=by
 unfold oq at h;split at h
 ·simp only [ah] at h;subst h;exact .inl ⟨rfl,rfl⟩
 ·split at h
  ·rename_i k n c;simp only [ah] at h;subst h;have:=aZ b c;simp only [VR] at this;exact .inr ⟨k,n,rfl,by simp [this]⟩
  ·cases h
theorem tw {α:Type} {ι:Inj} {T:List (Nat×Option V)} {a:Act} (r:TR ι T a.tmps) {lo hi:Option Operand} {l h:Option Int} (x:oq (opd T) lo=some l)
  (t:oq (opd T) hi=some h) {n len:Nat} {isSlice:Bool} {c:Nat->Nat->Option α} {z:α} (f:(hiK n len h λh=>loK h l λl=>c h l)=some z):
  ∃H L,c H L=some z/\(h=none\/H<=n)/\(h=none->H=len)/\(h≠none->H<=n)/\L<=H/\(l=none->L=0)/\
   ∀w,(Instr.sliceBounds isSlice len n (lo.map a.eval) (hi.map a.eval) none).run P w=.ok (L,H,n) w:=by
 have j:∀{H:Nat},loK H l (c H)=some z->∃L,c H L=some z/\L<=H/\(l=none->L=0)/\
   ∀w,(match lo.map a.eval with | some v=>Instr.sliceBound v H .sliceB | none=>pure 0).run P w=.ok L w:=by
  intro H f;rcases mO r x with ⟨rfl,g⟩ | ⟨k,m,rfl,g⟩
  ·exact ⟨0,f,gf _,λ_=>rfl,λw=>by rw [g];rfl⟩
  ·simp only [loK] at f;obtain ⟨L,o,i⟩:=ak f;obtain ⟨g0,q,rfl⟩:=jK o;exact ⟨_,i,by omega,by simp,λw=>by rw [g];exact run_sliceBound w k m H .sliceB g0 q⟩
 rcases mO r t with ⟨rfl,g⟩ | ⟨k,m,rfl,g⟩
 ·simp only [hiK] at f;obtain ⟨L,o,i,p,d⟩:=j f;refine ⟨len,L,o,.inl rfl,λ_=>rfl,by simp,i,p,λw=>?_⟩;have d:=d w;rw [g];simp only [Instr.sliceBounds,aq,aB,ax,tU,bE,aC];cases b:lo.map a.eval with
  | none=>rw [b] at d;simp only [aB,vv,uv] at d;simp [d]
  | some v=>rw [b] at d;simp only [] at d;simp [d]
 ·simp only [hiK] at f;obtain ⟨H,o,i⟩:=ak f;obtain ⟨g0,q,rfl⟩:=jK o;obtain ⟨L,p,d,u,e⟩:=j i;refine ⟨_,L,p,.inr (by omega),by simp,λ_=>by omega,d,u,λw=>?_⟩;have e:=e w;rw [g];have s:=run_sliceBound (P:=P) w k m n (if isSlice=true then .sliceAcap else .sliceAlen) g0 q;simp only [Instr.sliceBounds,aq,aB,ax,tU,bE,aC,s];cases b:lo.map a.eval with
  | none=>rw [b] at e;simp only [aB,vv,uv] at e;simp [e]
  | some v=>rw [b] at e;simp only [] at e;simp [e]
section ops
variable {α:Type} {ι:Inj} {s:St} {a:Act} {w:World} {f:Nat} {o:Oper} {c:Eff->Option α} {z:α}
theorem L6 {t:TypeId} {x:Operand} (D:o.op=.load t x) (C:TR ι s.T a.tmps) (B:WR ι s.H s.nb w) (h:effK P (opd s.T) s.H f (.load t x) c=some z):
  ∃e,c e=some z/\fw P ι f o a w e:=by
 simp only [effK] at h;split at h
 ·rename_i b off hx;split at h
  ·rename_i blk y;obtain ⟨v,X,r,n,K,A,p⟩:=Dz B y h;have i:=aZ C hx;simp only [VR] at i;obtain ⟨V,g,m⟩:=i;rw [K] at g;cases g;exact ⟨_,n,.val (by simp only [execOp,D,m,aq,A,ax,aB]) p⟩
  ·cases h
 ·rename_i S b j off hx;split at h
  case h_2=>cases h
  rename_i tr l y;split at h
  case h_2=>cases h
  rename_i u;have u:=be u;subst u;obtain ⟨L,J,h⟩:=ak h;have i:=aZ C hx;simp only [VR] at i;obtain ⟨q,g,m⟩:=i;rcases ib B y with ⟨N,R,e,fr,d,E,Q,M,U,F,W⟩ | ⟨d,_⟩
  ·rw [g] at d;cases d;obtain ⟨G,O⟩:=NL F J;have I:l.length*tr.length<=q.k*tr.length:=l7 _ (by omega);rw [<-gG] at m;obtain ⟨v,X,n,A,p⟩:=KU (o:=off) E (by rw [jp,G];exact (kr ι tr L _).2 rfl) (by rw [jp];omega) h;exact ⟨_,n,.val (by simp only [execOp,D,m,aq,A,ax,aB]) p⟩
  ·rw [g] at d;cases d
 ·cases h
theorem Gz {t:TypeId} {x y:Operand} (U:o.op=.store t x y) (B:TR ι s.T a.tmps) (N:WR ι s.H s.nb w) (h:effK P (opd s.T) s.H f (.store t x y) c=some z):
  ∃e,c e=some z/\fw P ι f o a w e:=by
 simp only [effK] at h;split at h
 ·rename_i b off hx;obtain ⟨v,hy,h⟩:=ak h;split at h
  ·rename_i blk J;obtain ⟨Q,F,r,d,M,L,E⟩:=IV N J (aZ B hy) h;have m:=aZ B hx;simp only [VR] at m;obtain ⟨r',g,C⟩:=m;rw [M] at g;cases g;refine ⟨_,d,?_⟩;unfold fw;exact ⟨r,M,λ_=>⟨F,.skip,by simp only [execOp,U,C,aq,L,ax,aB],E,.skip rfl⟩⟩
  ·cases h
 ·rename_i zz b j off hx;obtain ⟨v,hy,S⟩:=ak h;clear h;have h:=S;clear S;split at h
  case h_2=>cases h
  rename_i tr l J;split at h
  case h_2=>cases h
  rename_i n;have n:=be n;subst n;obtain ⟨xr,K,h⟩:=ak h;have m:=aZ B hx;simp only [VR] at m;obtain ⟨q,g,C⟩:=m;rcases ib N J with ⟨q',R,e,fr,i,V,Y,W,g5,O,g7⟩ | ⟨i,_⟩
  ·rw [g] at i;cases i;obtain ⟨Z,r2⟩:=NL O K;have hle:l.length*tr.length<=q.k*tr.length:=l7 _ (by omega);rw [<-gG] at C;obtain ⟨l',X,d,M,L,E⟩:=JR (o:=off) (fr:=fr) V (by rw [jp,Z];exact (kr ι tr xr _).2 rfl) (by rw [jp];omega) (aZ B hy) h;simp only at d;obtain ⟨A,G,d⟩:=ak d;have hX:X=vals tr A:=(kr ι tr A X).1 (by rw [<-s9 G];exact L);subst hX;have I:j<l.length:=by
    rcases aE j l.length with D | D
    ·exact D
    ·rw [eX D] at K;cases K
   have u:(splA R (q.o+j*tr.length) (vals tr A)).size=R.size:=ue (by rw [iK];omega);refine ⟨_,d,?_⟩;unfold fw;refine ⟨q,g,λn=>?_⟩;have p:=g7.resolve_left (by rw [n];simp);refine ⟨_,.skip,by simp only [execOp,U,C,aq,E p,ax,aB];rfl,⟨_,e,fr,rfl,by rw [List.length_set];exact Y,W,by rw [u];exact g5,?_,.inr (by rw [u];exact p)⟩,.skip rfl⟩;exact MQ (by omega) O A I
  ·rw [g] at i;cases i
 ·cases h
theorem HE {t:TypeId} (j:o.op=.alloc t) (h:effK P (opd s.T) s.H f (.alloc t) c=some z):∃e,c e=some z/\fw P ι f o a w e:=by
 simp only [effK] at h;obtain ⟨v,d,h⟩:=ak h;obtain ⟨x,i,k,l,g,b⟩:=tf (upd ι f (some (Rf.of w.heap.size (0) (0)))) d;refine ⟨_,h,.mk (x:=.pointer (some ⟨w.heap.size,0,none⟩)) (ob:=.cells x.cells t) ?_ (Eh (P2 g) t) ?_⟩
 ·simp only [execOp,j,Instr.alloc,aq,b,ax,newVar,newRow,uz,aB,vF]
 ·simp only [VR];exact ⟨_,cO _ _ _,rfl⟩
theorem O7 {t:TypeId} {x:Operand} (d:o.op=.box t x) (g:TR ι s.T a.tmps) (b:ι f=none) (h:effK P (opd s.T) s.H f (.box t x) c=some z):
  ∃e,c e=some z/\fw P ι f o a w e:=by
 simp only [effK] at h;obtain ⟨v,i,h⟩:=ak h;have hv':=aZ g i;refine ⟨_,h,.mk (x:=.pointer (some ⟨w.heap.size,0,none⟩)) (ob:=.cells (a.eval x).cells t) ?_ (Eh (VR.mono (nq b) _ _ hv') t) ?_⟩
 ·simp only [execOp,d,Instr.box,aq,ax,newVar,newRow,uz,aB,vF]
 ·simp only [VR];exact ⟨_,cO _ _ _,rfl⟩
theorem Fz (a:List Field) (h:(a.all λfd=>Nat.blt 0 (P.cellsOf fd.type))=true) (w:World):
  (a.mapM λ(f:Field)=>do pure (f.offset,<-sizeOf f.type)).run P w=.ok (Aw P a) w:=by
 induction a with
 | nil=>rfl
 | cons fd a ih=>
  simp only [kM,az] at h;obtain ⟨i,hi⟩:=bz h.1;have ih:=ih h.2;simp only [yf,aq,eV hi,ax,aB,ih];rfl
theorem Ie {t:TypeId} {g:Array (Nat×Operand)} (F:o.op=.build t g) (I:TR ι s.T a.tmps) (h:effK P (opd s.T) s.H f (.build t g) c=some z):
  ∃e,c e=some z/\fw P ι f o a w e:=by
 simp only [effK] at h;obtain ⟨M,v,h⟩:=ak h;obtain ⟨u,hp,h⟩:=ak h;obtain ⟨x,i,L,O,K,E⟩:=tf ι v;obtain ⟨D,G⟩:=rM I _ _ hp;have q:=lq K;have k:(g.map λ(i,x)=>(i,a.eval x)).toList=g.toList.map λ(i,x)=>(i,a.eval x):=by simp
 split at h
 ·rename_i j C;split at h
  ·rename_i p;obtain ⟨l,A,h⟩:=ak h;obtain ⟨r,b,d⟩:=tn _ _ (g.toList.map λ(i,x)=>(i,a.eval x)) _ _ _ q D (by simp [VRs]) G A;refine ⟨_,h,.val (x:=.agg r) ?_ (by simp only [VR];exact ⟨r,rfl,d⟩)⟩;have J:(j.mapM λ(f:Field)=>do pure (f.offset,<-sizeOf f.type)).run P w=.ok (Aw P j.toList).toArray w:=by
    rw [NE];simp only [Sem.run_map,Fz j.toList p,ax]
   have B:(λ(i:Nat)=>(Aw P j.toList).toArray[i]?)=λ(i:Nat)=>(Aw P j.toList)[i]?:=by
    funext i;simp
   simp only [execOp,F,Instr.build,aq,E,ax,aN C,J,B,k,b,aB]
  ·cases h
 ·rename_i n e C;split at h
  ·rename_i m;obtain ⟨N,y⟩:=bz m;obtain ⟨l,A,h⟩:=ak h;obtain ⟨r,b,d⟩:=tn _ _ (g.toList.map λ(i,x)=>(i,a.eval x)) _ _ _ q D (by simp [VRs]) G A;refine ⟨_,h,.val (x:=.agg r) ?_ (nv d)⟩;simp only [execOp,F,Instr.build,aq,E,ax,aN C,eV y,k,b,aB]
  ·cases h
 ·cases h
theorem uG (l:List V):∀n,(xN l n).length=n*l.length
 | 0=>by simp [xN]
 | n+1=>by simp [xN,uG l n,fM,nz]
theorem MH {ι:Inj} {l:List V} {a:Array Value} (h:VRs ι l a.toList) (m:0<l.length):∀n,VRs ι (xN l n) ((Array.range (n*l.length)).map (a[·%a.size]!)).toList:=by
 have b:a.size=l.length:=by simpa using h.length
 intro n;refine VRs.of_get (by simp [uG]) λj v x d hx=>?_;have key:∀n j v,(xN l n)[j]?=some v->l[j%l.length]?=some v:=by
  intro n
  induction n with
  | zero=>intro j v h;simp [xN] at h
  | succ n ih=>
   intro j v h;simp only [xN] at h;by_cases c:j<l.length
   ·rw [lK c] at h;rw [pV c];exact h
   ·rw [nN (by omega)] at h;have:=ih _ _ h;rwa [<-Nat.mod_eq_sub_mod (by omega)] at this
 have k:=key n j v d;obtain ⟨y,hy,e⟩:=h.get k;have f:j<n*l.length:=by
  rcases aE j (n*l.length) with g | g
  ·exact g
  ·rw [eX (by rw [uG];omega)] at d;cases d
 have i:j%l.length<a.size:=by rw [b];exact pU _ m
 have:x=a[j%a.size]! := by
  simp [f] at hx;exact hx.symm
 rw [this,b];have hy':a[j%l.length]?=some y:=by simpa using hy
 have:a[j%l.length]! = y:=by
  rw [getElem!_def,hy']
 rw [this];exact e
theorem vO {t e:TypeId} {n:Nat} {zc:Value} {i:TypeInfo} {g:Array (Nat×Value)} {h:Array Value} {w:World} (k:P.underlying t=some (.slice e)) (hi:P.info? e=some i)
  (f:n*P.cellsOf e<=1000) (j:∀w,(zeroValue e).run P w=.ok zc w)
  (a:Instr.fill (λi=>some (i*P.cellsOf e,P.cellsOf e)) ((Array.range (n*P.cellsOf e)).map (zc.cells[·%zc.cells.size]!)) g.toList=some h):
  (Instr.buildSlice t n g).run P w=.ok (.slice (some ⟨w.heap.size,0,none⟩) n n) (w.alloc (.cells h e)):=by
 have d:¬(n*P.cellsOf e>2 ^ 24):=Nat.not_lt.2 (pX f (by decide));unfold Instr.buildSlice;simp only [aq,ax,aN k,eV hi];rw [ab d];by_cases c:n*P.cellsOf e=0
 ·rw [ae c];have b:Array.range 0=#[]:=rfl;rw [c] at a ⊢;rw [b,D1] at a;simp only [aq,aB,ax,b,D1,a,newRow,uz,vF]
 ·rw [ab c];simp only [aq,j,aB,ax,a,newRow,uz,vF]
theorem vX {t:TypeId} {n:Nat} {v:Array (Nat×Operand)} (M:o.op=.buildSlice t n v) (R:TR ι s.T a.tmps) (W:ι f=none) (h:effK P (opd s.T) s.H f (.buildSlice t n v) c=some z):
  ∃e,c e=some z/\fw P ι f o a w e:=by
 simp only [effK] at h;split at h
 ·rename_i e X;split at h
  ·rename_i L;simp only [az] at L;obtain ⟨I,k⟩:=L;obtain ⟨i',F⟩:=bz k;obtain ⟨Z,E,h⟩:=ak h;obtain ⟨C,hp,h⟩:=ak h;split at h
   ·rename_i b;have b:=be b;obtain ⟨l,S,h⟩:=ak h;obtain ⟨x,i,Y,h2,V,Q⟩:=tf ι E;obtain ⟨O,U⟩:=rM R _ _ hp;have D:=lq V;have B:(v.map λ(i,x)=>(i,a.eval x)).toList=v.toList.map λ(i,x)=>(i,a.eval x):=by simp
    have hpos':0<P.cellsOf e:=aD k;have y:=MH D (by omega) n;rw [b] at y;obtain ⟨A,g,j⟩:=tn _ _ (v.toList.map λ(i,x)=>(i,a.eval x)) _ _ _ y O (by simp [VRs]) U S;rw [<-B] at g;have r:=vO (w:=w) X F (aD I) Q g;split at h
    ·rename_i tr N;split at h
     case h_2=>cases h
     rename_i u;simp only [az,gP] at u;obtain ⟨K,J⟩:=u;obtain ⟨m,G,h⟩:=ak h;obtain ⟨m1,m2⟩:=Ac G (by rw [J,K]);have p:A.size=n*tr.length:=by rw [K,<-J];simpa using j.length
     rw [m2] at j;refine ⟨_,h,.mkR (d:=w.drawn) (q:=(Rf.of w.heap.size (n) (n))) (x:=.slice (some ⟨w.heap.size,0,none⟩) n n) (ob:=.cells A e) ?_ rfl rfl
      ⟨A,e,(0,0),rfl,m1,aM _,by rw [p];simp,?_,.inr (ql _)⟩ ?_⟩
     ·simp only [execOp,M,aq,r,ax,aB]
     ·rw [<-Eu ι m _ j,m1];simp only [cH];exact iP (by rw [Du,p];exact aM _)
     ·simp only [VR];exact .inl ⟨_,cO _ _ _,rfl⟩
    ·refine ⟨_,h,.mk (x:=.slice (some ⟨w.heap.size,0,none⟩) n n) (ob:=.cells A e) ?_ ⟨A,e,(0,0),rfl,VRs.mono (nq W) _ _ j,ql _⟩ ?_⟩
     ·simp only [execOp,M,aq,r,ax,aB]
     ·simp only [VR];exact ⟨_,n,cO _ _ _,λm G=>by simpa using G,aM _,rfl⟩
   ·cases h
  ·cases h
 ·cases h
theorem IC {t:TypeId} {x:Operand} (g:o.op=.range t x) (i:TR ι s.T a.tmps) (h:effK P (opd s.T) s.H f (.range t x) c=some z):
  ∃e,c e=some z/\fw P ι f o a w e:=by
 simp only [effK] at h;split at h
 ·rename_i d;split at h
  ·rename_i l hx;have b:=aZ i hx;simp only [VR] at b;refine ⟨_,h,.mk (x:=.pointer (some ⟨w.heap.size,0,none⟩)) (ob:=.stringIter ⟨l.toArray⟩ 0) ?_ rfl (by simp only [VR];exact ⟨_,cO _ _ _,rfl⟩)⟩;simp only [execOp,g,Instr.range,aq,ax,aN d,b,aB,uz,vF]
  ·cases h
 ·cases h
end ops
end Go.Abs
