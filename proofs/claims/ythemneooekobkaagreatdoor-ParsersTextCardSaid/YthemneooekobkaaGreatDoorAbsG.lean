
/- The abstract effect of an operation is what the model's own operation does: all operations but calls of Go functions.
   Conditions: none; generic over the program. -/
import Derived.Test.YthemneooekobkaaGreatDoorAbsF
set_option linter.unusedSimpArgs false
set_option linter.unusedVariables false
namespace Go.Abs
variable {P:Program}
theorem pT (o j:Nat):padd o j=o+j:=by
 unfold padd;cases h:Nat.beq o 0 with
 | true=>have:o=0:=bB h;simp [this]
 | false=>rfl
theorem wN (j s:Nat):pmul j s=j*s:=by
 unfold pmul;cases h:Nat.beq s 1 with
 | true=>have:s=1:=bB h;simp [this]
 | false=>rfl
theorem oS {n j:Nat} {i:Int} (h:ix n i=some j):0<=i/\i<n/\j=i.toNat:=by
 unfold ix at h;split at h
 ·rename_i hc;simp only [aw] at h;exact ⟨hc.1,hc.2,h.symm⟩
 ·cases h
theorem lR {n j:Nat} {i:Int} (h:bx n i=some j):0<=i/\i<=n/\j=i.toNat:=by
 unfold bx at h;split at h
 ·rename_i hc;simp only [aw] at h;exact ⟨hc.1,hc.2,h.symm⟩
 ·cases h
theorem pC {ι:Inj} {T:List (Nat×Option V)} {a:Act} (b:TR ι T a.tmps) {x:Option Operand} {l:Option Int} (h:rA (opd T) x=some l):
  (l=none/\x.map a.eval=none)\/∃k n,l=some n/\x.map a.eval=some (.int k n):=by
 unfold rA at h;split at h
 ·simp only [aw] at h;subst h;exact .inl ⟨rfl,rfl⟩
 ·split at h
  ·rename_i k n c;simp only [aw] at h;subst h;have:=bu b c;simp only [VR] at this;exact .inr ⟨k,n,rfl,by simp [this]⟩
  ·cases h
theorem xA {α:Type} {ι:Inj} {T:List (Nat×Option V)} {a:Act} (r:TR ι T a.tmps) {lo hi:Option Operand} {l h:Option Int} (u:rA (opd T) lo=some l)
  (t:rA (opd T) hi=some h) {n len:Nat} {isSlice:Bool} {c:Nat->Nat->Option α} {z:α} (f:(hiK n len h λh=>loK h l λl=>c h l)=some z):
  ∃H L,c H L=some z/\(h=none\/H<=n)/\(h=none->H=len)/\(h≠none->H<=n)/\L<=H/\(l=none->L=0)/\
   ∀w,(Instr.sliceBounds isSlice len n (lo.map a.eval) (hi.map a.eval) none).run P w=.ok (L,H,n) w:=by
 have j:∀{H:Nat},loK H l (c H)=some z->∃L,c H L=some z/\L<=H/\(l=none->L=0)/\
   ∀w,(match lo.map a.eval with | some v=>Instr.sliceBound v H .sliceB | none=>pure 0).run P w=.ok L w:=by
  intro H f;rcases pC r u with ⟨rfl,g⟩ | ⟨k,m,rfl,g⟩
  ·exact ⟨0,f,ie _,λ_=>rfl,λw=>by rw [g];rfl⟩
  ·simp only [loK] at f;obtain ⟨L,i,o⟩:=ay f;obtain ⟨g0,p,rfl⟩:=lR i;exact ⟨_,o,by omega,by simp,λw=>by rw [g];exact run_sliceBound w k m H .sliceB g0 p⟩
 rcases pC r t with ⟨rfl,g⟩ | ⟨k,m,rfl,g⟩
 ·simp only [hiK] at f;obtain ⟨L,i,o,q,d⟩:=j f;refine ⟨len,L,i,.inl rfl,λ_=>rfl,by simp,o,q,λw=>?_⟩;have d:=d w;rw [g];simp only [Instr.sliceBounds,az,aF,aB,xm,bs,aG];cases b:lo.map a.eval with
  | none=>rw [b] at d;simp only [aF,yo,tH] at d;simp [d]
  | some v=>rw [b] at d;simp only [] at d;simp [d]
 ·simp only [hiK] at f;obtain ⟨H,i,o⟩:=ay f;obtain ⟨g0,p,rfl⟩:=lR i;obtain ⟨L,q,d,x,e⟩:=j o;refine ⟨_,L,q,.inr (by omega),by simp,λ_=>by omega,d,x,λw=>?_⟩;have e:=e w;rw [g];have s:=run_sliceBound (P:=P) w k m n (if isSlice=true then .sliceAcap else .sliceAlen) g0 p;simp only [Instr.sliceBounds,az,aF,aB,xm,bs,aG,s];cases b:lo.map a.eval with
  | none=>rw [b] at e;simp only [aF,yo,tH] at e;simp [e]
  | some v=>rw [b] at e;simp only [] at e;simp [e]
section ops
variable {α:Type} {ι:Inj} {s:St} {a:Act} {w:World} {f:Nat} {o:Oper} {c:Eff->Option α} {z:α}
theorem O9 {t:TypeId} {x:Operand} (C:o.op=.load t x) (D:TR ι s.T a.tmps) (B:WR ι s.H s.nb w) (h:effK P (opd s.T) s.H f (.load t x) c=some z):
  ∃e,c e=some z/\gH P ι f o a w e:=by
 simp only [effK] at h;split at h
 ·rename_i b off hx;split at h
  ·rename_i blk p;obtain ⟨v,X,r,n,K,A,u⟩:=HY B p h;have g:=bu D hx;simp only [VR] at g;obtain ⟨O,i,m⟩:=g;rw [K] at i;cases i;exact ⟨_,n,.val (by simp only [execOp,C,m,az,A,aB,aF]) u⟩
  ·cases h
 ·rename_i V b j off hx;split at h
  case h_2=>cases h
  rename_i tr l p;split at h
  case h_2=>cases h
  rename_i y;have y:=bB y;subst y;obtain ⟨I,J,h⟩:=ay h;have g:=bu D hx;simp only [VR] at g;obtain ⟨q,i,m⟩:=g;rcases jH B p with ⟨M,N,e,fr,d,G,U,S,R,L,Q⟩ | ⟨d,_⟩
  ·rw [i] at d;cases d;obtain ⟨F,W⟩:=RP L J;have E:l.length*tr.length<=q.k*tr.length:=oH _ (by omega);rw [<-gq] at m;obtain ⟨v,X,n,A,u⟩:=Q5 (o:=off) G (by rw [kX,F];exact (od ι tr I _).2 rfl) (by rw [kX];omega) h;exact ⟨_,n,.val (by simp only [execOp,C,m,az,A,aB,aF]) u⟩
  ·rw [i] at d;cases d
 ·cases h
theorem N5 {t:TypeId} {x y:Operand} (S:o.op=.store t x y) (C:TR ι s.T a.tmps) (O:WR ι s.H s.nb w) (h:effK P (opd s.T) s.H f (.store t x y) c=some z):
  ∃e,c e=some z/\gH P ι f o a w e:=by
 simp only [effK] at h;split at h
 ·rename_i b off hx;obtain ⟨v,hy,h⟩:=ay h;split at h
  ·rename_i blk D;obtain ⟨R,F,r,d,L,G,E⟩:=Nv O D (bu C hy) h;have n:=bu C hx;simp only [VR] at n;obtain ⟨r',g,B⟩:=n;rw [L] at g;cases g;refine ⟨_,d,?_⟩;unfold gH;exact ⟨r,L,λ_=>⟨F,.skip,by simp only [execOp,S,B,az,G,aB,aF],E,.skip rfl⟩⟩
  ·cases h
 ·rename_i zz b j off hx;obtain ⟨v,hy,Q⟩:=ay h;clear h;have h:=Q;clear Q;split at h
  case h_2=>cases h
  rename_i tr l D;split at h
  case h_2=>cases h
  rename_i i;have i:=bB i;subst i;obtain ⟨xr,I,h⟩:=ay h;have n:=bu C hx;simp only [VR] at n;obtain ⟨q,g,B⟩:=n;rcases jH O D with ⟨q',N,e,fr,m,Y,g3,g4,g5,U,g7⟩ | ⟨m,_⟩
  ·rw [g] at m;cases m;obtain ⟨W,r2⟩:=RP U I;have V:l.length*tr.length<=q.k*tr.length:=oH _ (by omega);rw [<-gq] at B;obtain ⟨l',X,d,L,G,E⟩:=Or (o:=off) (fr:=fr) Y (by rw [kX,W];exact (od ι tr xr _).2 rfl) (by rw [kX];omega) (bu C hy) h;simp only at d;obtain ⟨A,K,d⟩:=ay d;have Z:X=vals tr A:=(od ι tr A X).1 (by rw [<-wu K];exact G);subst Z;have M:j<l.length:=by
    rcases aI j l.length with J | J
    ·exact J
    ·rw [fV J] at I;cases I
   have u:(splA N (q.o+j*tr.length) (vals tr A)).size=N.size:=ye (by rw [gO];omega);refine ⟨_,d,?_⟩;unfold gH;refine ⟨q,g,λi=>?_⟩;have p:=g7.resolve_left (by rw [i];simp);refine ⟨_,.skip,by simp only [execOp,S,B,az,E p,aB,aF];rfl,⟨_,e,fr,rfl,by rw [FV];exact g3,g4,by rw [u];exact g5,?_,.inr (by rw [u];exact p)⟩,.skip rfl⟩;exact O3 (by omega) U A M
  ·rw [g] at m;cases m
 ·cases h
theorem N6 {t:TypeId} (d:o.op=.alloc t) (h:effK P (opd s.T) s.H f (.alloc t) c=some z):∃e,c e=some z/\gH P ι f o a w e:=by
 simp only [effK] at h;obtain ⟨v,b,h⟩:=ay h;obtain ⟨x,i,l,k,g,j⟩:=wa (upd ι f (some (Rf.of w.heap.size (0) (0)))) b;refine ⟨_,h,.mk (x:=.pointer (some ⟨w.heap.size,0,none⟩)) (ob:=.cells x.cells t) ?_ (IH (SI g) t) ?_⟩
 ·simp only [execOp,d,Instr.alloc,az,j,aB,newVar,newRow,yf,aF,yF]
 ·simp only [VR];exact ⟨_,dJ _ _ _,rfl⟩
theorem TT {t:TypeId} {x:Operand} (i:o.op=.box t x) (b:TR ι s.T a.tmps) (g:ι f=none) (h:effK P (opd s.T) s.H f (.box t x) c=some z):
  ∃e,c e=some z/\gH P ι f o a w e:=by
 simp only [effK] at h;obtain ⟨v,d,h⟩:=ay h;have hv':=bu b d;refine ⟨_,h,.mk (x:=.pointer (some ⟨w.heap.size,0,none⟩)) (ob:=.cells (a.eval x).cells t) ?_ (IH (VR.mono (qj g) _ _ hv') t) ?_⟩
 ·simp only [execOp,i,Instr.box,az,aB,newVar,newRow,yf,aF,yF]
 ·simp only [VR];exact ⟨_,dJ _ _ _,rfl⟩
theorem Ji (a:List Field) (h:(a.all λfd=>Nat.blt 0 (P.cellsOf fd.type))=true) (w:World):
  (a.mapM λ(f:Field)=>do pure (f.offset,<-sizeOf f.type)).run P w=.ok (EX P a) w:=by
 induction a with
 | nil=>rfl
 | cons fd a ih=>
  simp only [mU,aD] at h;obtain ⟨i,hi⟩:=ci h.1;have ih:=ih h.2;simp only [yx,az,gj hi,aB,aF,ih];rfl
theorem MI {t:TypeId} {g:Array (Nat×Operand)} (F:o.op=.build t g) (K:TR ι s.T a.tmps) (h:effK P (opd s.T) s.H f (.build t g) c=some z):
  ∃e,c e=some z/\gH P ι f o a w e:=by
 simp only [effK] at h;obtain ⟨O,C,h⟩:=ay h;obtain ⟨A,hp,h⟩:=ay h;obtain ⟨x,i,L,N,I,E⟩:=wa ι C;obtain ⟨D,G⟩:=vz K _ _ hp;have k:=ny I;have p:(g.map λ(i,x)=>(i,a.eval x)).toList=g.toList.map λ(i,x)=>(i,a.eval x):=by simp
 split at h
 ·rename_i j v;split at h
  ·rename_i m;obtain ⟨l,y,h⟩:=ay h;obtain ⟨r,b,d⟩:=wq _ _ (g.toList.map λ(i,x)=>(i,a.eval x)) _ _ _ k D (by simp [VRs]) G y;refine ⟨_,h,.val (x:=.agg r) ?_ (by simp only [VR];exact ⟨r,rfl,d⟩)⟩;have J:(j.mapM λ(f:Field)=>do pure (f.offset,<-sizeOf f.type)).run P w=.ok (EX P j.toList).toArray w:=by
    rw [RV];simp only [Sem.run_map,Ji j.toList m,aB]
   have u:(λ(i:Nat)=>(EX P j.toList).toArray[i]?)=λ(i:Nat)=>(EX P j.toList)[i]?:=by
    funext i;simp
   simp only [execOp,F,Instr.build,az,E,aB,be v,J,u,p,b,aF]
  ·cases h
 ·rename_i n e v;split at h
  ·rename_i q;obtain ⟨M,B⟩:=ci q;obtain ⟨l,y,h⟩:=ay h;obtain ⟨r,b,d⟩:=wq _ _ (g.toList.map λ(i,x)=>(i,a.eval x)) _ _ _ k D (by simp [VRs]) G y;refine ⟨_,h,.val (x:=.agg r) ?_ (qp d)⟩;simp only [execOp,F,Instr.build,az,E,aB,be v,gj B,p,b,aF]
  ·cases h
 ·cases h
theorem xT (l:List V):∀n,(BB l n).length=n*l.length
 | 0=>by simp [BB]
 | n+1=>by simp [BB,xT l n,ic,oG]
theorem QF {ι:Inj} {l:List V} {a:Array Value} (h:VRs ι l a.toList) (m:0<l.length):∀n,VRs ι (BB l n) ((Array.range (n*l.length)).map (a[·%a.size]!)).toList:=by
 have c:a.size=l.length:=by simpa using h.length
 intro n;refine VRs.of_get (by simp [xT]) λj v x d hx=>?_;have key:∀n j v,(BB l n)[j]?=some v->l[j%l.length]?=some v:=by
  intro n
  induction n with
  | zero=>intro j v h;simp [BB] at h
  | succ n ih=>
   intro j v h;simp only [BB] at h;by_cases b:j<l.length
   ·rw [nT b] at h;rw [ra b];exact h
   ·rw [qA (by omega)] at h;have:=ih _ _ h;rwa [<-Nat.mod_eq_sub_mod (by omega)] at this
 have k:=key n j v d;obtain ⟨y,hy,e⟩:=h.get k;have f:j<n*l.length:=by
  rcases aI j (n*l.length) with g | g
  ·exact g
  ·rw [fV (by rw [xT];omega)] at d;cases d
 have i:j%l.length<a.size:=by rw [c];exact rB _ m
 have:x=a[j%a.size]! := by
  simp [f] at hx;exact hx.symm
 rw [this,c];have hy':a[j%l.length]?=some y:=by simpa using hy
 have:a[j%l.length]! = y:=by
  rw [getElem!_def,hy']
 rw [this];exact e
theorem zi {t e:TypeId} {n:Nat} {zc:Value} {i:TypeInfo} {g:Array (Nat×Value)} {h:Array Value} {w:World} (j:P.underlying t=some (.slice e)) (hi:P.info? e=some i)
  (d:n*P.cellsOf e<=1000) (k:∀w,(zeroValue e).run P w=.ok zc w)
  (a:Instr.fill (λi=>some (i*P.cellsOf e,P.cellsOf e)) ((Array.range (n*P.cellsOf e)).map (zc.cells[·%zc.cells.size]!)) g.toList=some h):
  (Instr.buildSlice t n g).run P w=.ok (.slice (some ⟨w.heap.size,0,none⟩) n n) (w.alloc (.cells h e)):=by
 have f:¬(n*P.cellsOf e>2 ^ 24):=Nat.not_lt.2 (rF d (by decide));unfold Instr.buildSlice;simp only [az,aB,be j,gj hi];rw [ab f];by_cases c:n*P.cellsOf e=0
 ·rw [ae c];have b:Array.range 0=#[]:=rfl;rw [c] at a ⊢;rw [b,IM] at a;simp only [az,aF,aB,b,IM,a,newRow,yf,yF]
 ·rw [ab c];simp only [az,k,aF,aB,a,newRow,yf,yF]
theorem zh {t:TypeId} {n:Nat} {A:Array (Nat×Operand)} (M:o.op=.buildSlice t n A) (X:TR ι s.T a.tmps) (V:ι f=none) (h:effK P (opd s.T) s.H f (.buildSlice t n A) c=some z):
  ∃e,c e=some z/\gH P ι f o a w e:=by
 simp only [effK] at h;split at h
 ·rename_i e Q;split at h
  ·rename_i J;simp only [aD] at J;obtain ⟨B,p⟩:=J;obtain ⟨Z,F⟩:=ci p;obtain ⟨zv,I,h⟩:=ay h;obtain ⟨E,hp,h⟩:=ay h;split at h
   ·rename_i b;have b:=bB b;obtain ⟨l,U,h⟩:=ay h;obtain ⟨x,i,Y,h2,R,O⟩:=wa ι I;obtain ⟨N,W⟩:=vz X _ _ hp;have C:=ny R;have D:(A.map λ(i,x)=>(i,a.eval x)).toList=A.toList.map λ(i,x)=>(i,a.eval x):=by simp
    have hpos':0<P.cellsOf e:=aN p;have v:=QF C (by omega) n;rw [b] at v;obtain ⟨y,g,j⟩:=wq _ _ (A.toList.map λ(i,x)=>(i,a.eval x)) _ _ _ v N (by simp [VRs]) W U;rw [<-D] at g;have r:=zi (w:=w) Q F (aN B) O g;split at h
    ·rename_i tr S;split at h
     case h_2=>cases h
     rename_i u;simp only [aD,jq] at u;obtain ⟨K,L⟩:=u;obtain ⟨m,G,h⟩:=ay h;obtain ⟨m1,m2⟩:=Ek G (by rw [L,K]);have k:y.size=n*tr.length:=by rw [K,<-L];simpa using j.length
     rw [m2] at j;refine ⟨_,h,.mkR (d:=w.drawn) (q:=(Rf.of w.heap.size (n) (n))) (x:=.slice (some ⟨w.heap.size,0,none⟩) n n) (ob:=.cells y e) ?_ rfl rfl
      ⟨y,e,(0,0),rfl,m1,bi _,by rw [k];simp,?_,.inr (tf _)⟩ ?_⟩
     ·simp only [execOp,M,az,r,aB,aF]
     ·rw [<-Iz ι m _ j,m1];simp only [cO];exact jB (by rw [L2,k];exact bi _)
     ·simp only [VR];exact .inl ⟨_,dJ _ _ _,rfl⟩
    ·refine ⟨_,h,.mk (x:=.slice (some ⟨w.heap.size,0,none⟩) n n) (ob:=.cells y e) ?_ ⟨y,e,(0,0),rfl,VRs.mono (qj V) _ _ j,tf _⟩ ?_⟩
     ·simp only [execOp,M,az,r,aB,aF]
     ·simp only [VR];exact ⟨_,n,dJ _ _ _,λm G=>by simpa using G,bi _,rfl⟩
   ·cases h
  ·cases h
 ·cases h
theorem NW {t:TypeId} {x:Operand} (g:o.op=.range t x) (d:TR ι s.T a.tmps) (h:effK P (opd s.T) s.H f (.range t x) c=some z):
  ∃e,c e=some z/\gH P ι f o a w e:=by
 simp only [effK] at h;split at h
 ·rename_i i;split at h
  ·rename_i l hx;have b:=bu d hx;simp only [VR] at b;refine ⟨_,h,.mk (x:=.pointer (some ⟨w.heap.size,0,none⟩)) (ob:=.stringIter ⟨l.toArray⟩ 0) ?_ rfl (by simp only [VR];exact ⟨_,dJ _ _ _,rfl⟩)⟩;simp only [execOp,g,Instr.range,az,aB,be i,b,aF,yf,yF]
  ·cases h
 ·cases h
end ops
end Go.Abs
