
/- The abstract effect of an operation is what the model's own operation does: all operations but calls of Go functions.
   Conditions: none; generic over the program. -/
import Derived.Test.YthemneooekobkaaGreatDoorAbsF
set_option linter.unusedSimpArgs false
set_option linter.unusedVariables false
namespace Go.Abs
variable {P:Program}
theorem qP (o j:Nat):padd o j=o+j:=by
 unfold padd;cases h:Nat.beq o 0 with
 | true=>have:o=0:=bB h;simp [this]
 | false=>rfl
theorem xT (j s:Nat):pmul j s=j*s:=by
 unfold pmul;cases h:Nat.beq s 1 with
 | true=>have:s=1:=bB h;simp [this]
 | false=>rfl
theorem pt {n j:Nat} {i:Int} (h:ix n i=some j):0<=i/\i<n/\j=i.toNat:=by
 unfold ix at h;split at h
 ·rename_i hc;simp only [av] at h;exact ⟨hc.1,hc.2,h.symm⟩
 ·cases h
theorem mc {n j:Nat} {i:Int} (h:bx n i=some j):0<=i/\i<=n/\j=i.toNat:=by
 unfold bx at h;split at h
 ·rename_i hc;simp only [av] at h;exact ⟨hc.1,hc.2,h.symm⟩
 ·cases h
theorem qe {ι:Inj} {T:List (Nat×Option V)} {a:Act} (c:TR ι T a.tmps) {x:Option Operand} {l:Option Int} (h:rK (opd T) x=some l):
  (l=none/\x.map a.eval=none)\/∃k n,l=some n/\x.map a.eval=some (.int k n):=by
 unfold rK at h;split at h
 ·simp only [av] at h;subst h;exact .inl ⟨rfl,rfl⟩
 ·split at h
  ·rename_i k n b;simp only [av] at h;subst h;have:=bu c b;simp only [VR] at this;exact .inr ⟨k,n,rfl,by simp [this]⟩
  ·cases h
theorem yA {α:Type} {ι:Inj} {T:List (Nat×Option V)} {a:Act} (r:TR ι T a.tmps) {lo hi:Option Operand} {l h:Option Int} (x:rK (opd T) lo=some l)
  (t:rK (opd T) hi=some h) {n len:Nat} {isSlice:Bool} {c:Nat->Nat->Option α} {z:α} (e:(hiK n len h λh=>loK h l λl=>c h l)=some z):
  ∃H L,c H L=some z/\(h=none\/H<=n)/\(h=none->H=len)/\(h≠none->H<=n)/\L<=H/\(l=none->L=0)/\
   ∀w,(Instr.sliceBounds isSlice len n (lo.map a.eval) (hi.map a.eval) none).run P w=.ok (L,H,n) w:=by
 have i:∀{H:Nat},loK H l (c H)=some z->∃L,c H L=some z/\L<=H/\(l=none->L=0)/\
   ∀w,(match lo.map a.eval with | some v=>Instr.sliceBound v H .sliceB | none=>pure 0).run P w=.ok L w:=by
  intro H e;rcases qe r x with ⟨rfl,g⟩ | ⟨k,m,rfl,g⟩
  ·exact ⟨0,e,kE _,λ_=>rfl,λw=>by rw [g];rfl⟩
  ·simp only [loK] at e;obtain ⟨L,j,o⟩:=ax e;obtain ⟨g0,q,rfl⟩:=mc j;exact ⟨_,o,by omega,by simp,λw=>by rw [g];exact run_sliceBound w k m H .sliceB g0 q⟩
 rcases qe r t with ⟨rfl,g⟩ | ⟨k,m,rfl,g⟩
 ·simp only [hiK] at e;obtain ⟨L,j,o,p,d⟩:=i e;refine ⟨len,L,j,.inl rfl,λ_=>rfl,by simp,o,p,λw=>?_⟩;have d:=d w;rw [g];simp only [Instr.sliceBounds,ay,aF,aA,xP,bz,aE];cases b:lo.map a.eval with
  | none=>rw [b] at d;simp only [aF,yw,uj] at d;simp [d]
  | some v=>rw [b] at d;simp only [] at d;simp [d]
 ·simp only [hiK] at e;obtain ⟨H,j,o⟩:=ax e;obtain ⟨g0,q,rfl⟩:=mc j;obtain ⟨L,p,d,s,f⟩:=i o;refine ⟨_,L,p,.inr (by omega),by simp,λ_=>by omega,d,s,λw=>?_⟩;have f:=f w;rw [g];have u:=run_sliceBound (P:=P) w k m n (if isSlice=true then .sliceAcap else .sliceAlen) g0 q;simp only [Instr.sliceBounds,ay,aF,aA,xP,bz,aE,u];cases b:lo.map a.eval with
  | none=>rw [b] at f;simp only [aF,yw,uj] at f;simp [f]
  | some v=>rw [b] at f;simp only [] at f;simp [f]
section ops
variable {α:Type} {ι:Inj} {s:St} {a:Act} {w:World} {f:Nat} {o:Oper} {c:Eff->Option α} {z:α}
theorem Rt {t:TypeId} {x:Operand} (D:o.op=.load t x) (C:TR ι s.T a.tmps) (B:WR ι s.H s.nb w) (h:effK P (opd s.T) s.H f (.load t x) c=some z):
  ∃e,c e=some z/\gR P ι f o a w e:=by
 simp only [effK] at h;split at h
 ·rename_i b off hx;split at h
  ·rename_i blk u;obtain ⟨v,X,r,p,I,A,n⟩:=Jc B u h;have d:=bu C hx;simp only [VR] at d;obtain ⟨Q,g,m⟩:=d;rw [I] at g;cases g;exact ⟨_,p,.val (by simp only [execOp,D,m,ay,A,aA,aF]) n⟩
  ·cases h
 ·rename_i S b j off hx;split at h
  case h_2=>cases h
  rename_i tr l u;split at h
  case h_2=>cases h
  rename_i y;have y:=bB y;subst y;obtain ⟨F,K,h⟩:=ax h;have d:=bu C hx;simp only [VR] at d;obtain ⟨q,g,m⟩:=d;rcases jQ B u with ⟨R,U,e,fr,i,L,V,W,N,G,O⟩ | ⟨i,_⟩
  ·rw [g] at i;cases i;obtain ⟨E,M⟩:=SV G K;have J:l.length*tr.length<=q.k*tr.length:=o8 _ (by omega);rw [<-gO] at m;obtain ⟨v,X,p,A,n⟩:=Q2 (o:=off) L (by rw [lc,E];exact (oL ι tr F _).2 rfl) (by rw [lc];omega) h;exact ⟨_,p,.val (by simp only [execOp,D,m,ay,A,aA,aF]) n⟩
  ·rw [g] at i;cases i
 ·cases h
theorem LS {t:TypeId} {x y:Operand} (U:o.op=.store t x y) (C:TR ι s.T a.tmps) (O:WR ι s.H s.nb w) (h:effK P (opd s.T) s.H f (.store t x y) c=some z):
  ∃e,c e=some z/\gR P ι f o a w e:=by
 simp only [effK] at h;split at h
 ·rename_i b off hx;obtain ⟨v,hy,h⟩:=ax h;split at h
  ·rename_i blk E;obtain ⟨Q,F,r,d,G,K,D⟩:=MP O E (bu C hy) h;have i:=bu C hx;simp only [VR] at i;obtain ⟨r',g,A⟩:=i;rw [G] at g;cases g;refine ⟨_,d,?_⟩;unfold gR;exact ⟨r,G,λ_=>⟨F,.skip,by simp only [execOp,U,A,ay,K,aA,aF],D,.skip rfl⟩⟩
  ·cases h
 ·rename_i zz b j off hx;obtain ⟨v,hy,S⟩:=ax h;clear h;have h:=S;clear S;split at h
  case h_2=>cases h
  rename_i tr l E;split at h
  case h_2=>cases h
  rename_i p;have p:=bB p;subst p;obtain ⟨W,M,h⟩:=ax h;have i:=bu C hx;simp only [VR] at i;obtain ⟨q,g,A⟩:=i;rcases jQ O E with ⟨q',R,e,fr,m,g2,g3,g4,g5,N,g7⟩ | ⟨m,_⟩
  ·rw [g] at m;cases m;obtain ⟨V,r2⟩:=SV N M;have Z:l.length*tr.length<=q.k*tr.length:=o8 _ (by omega);rw [<-gO] at A;obtain ⟨l',X,d,G,K,D⟩:=MX (o:=off) (fr:=fr) g2 (by rw [lc,V];exact (oL ι tr W _).2 rfl) (by rw [lc];omega) (bu C hy) h;simp only at d;obtain ⟨B,J,d⟩:=ax d;have Y:X=vals tr B:=(oL ι tr B X).1 (by rw [<-wU J];exact K);subst Y;have I:j<l.length:=by
    rcases aH j l.length with L | L
    ·exact L
    ·rw [ga L] at M;cases M
   have u:(splA R (q.o+j*tr.length) (vals tr B)).size=R.size:=za (by rw [g9];omega);refine ⟨_,d,?_⟩;unfold gR;refine ⟨q,g,λp=>?_⟩;have n:=g7.resolve_left (by rw [p];simp);refine ⟨_,.skip,by simp only [execOp,U,A,ay,D n,aA,aF];rfl,⟨_,e,fr,rfl,by rw [FU];exact g3,g4,by rw [u];exact g5,?_,.inr (by rw [u];exact n)⟩,.skip rfl⟩;exact PP (by omega) N B I
  ·rw [g] at m;cases m
 ·cases h
theorem NN {t:TypeId} (g:o.op=.alloc t) (h:effK P (opd s.T) s.H f (.alloc t) c=some z):∃e,c e=some z/\gR P ι f o a w e:=by
 simp only [effK] at h;obtain ⟨v,d,h⟩:=ax h;obtain ⟨x,i,k,l,j,b⟩:=wP (upd ι f (some (Rf.of w.heap.size (0) (0)))) d;refine ⟨_,h,.mk (x:=.pointer (some ⟨w.heap.size,0,none⟩)) (ob:=.cells x.cells t) ?_ (IZ (TT j) t) ?_⟩
 ·simp only [execOp,g,Instr.alloc,ay,b,aA,newVar,newRow,xw,aF,zw]
 ·simp only [VR];exact ⟨_,dN _ _ _,rfl⟩
theorem To {t:TypeId} {x:Operand} (i:o.op=.box t x) (b:TR ι s.T a.tmps) (g:ι f=none) (h:effK P (opd s.T) s.H f (.box t x) c=some z):
  ∃e,c e=some z/\gR P ι f o a w e:=by
 simp only [effK] at h;obtain ⟨v,d,h⟩:=ax h;have hv':=bu b d;refine ⟨_,h,.mk (x:=.pointer (some ⟨w.heap.size,0,none⟩)) (ob:=.cells (a.eval x).cells t) ?_ (IZ (VR.mono (ql g) _ _ hv') t) ?_⟩
 ·simp only [execOp,i,Instr.box,ay,aA,newVar,newRow,xw,aF,zw]
 ·simp only [VR];exact ⟨_,dN _ _ _,rfl⟩
theorem JQ (a:List Field) (h:(a.all λfd=>Nat.blt 0 (P.cellsOf fd.type))=true) (w:World):
  (a.mapM λ(f:Field)=>do pure (f.offset,<-sizeOf f.type)).run P w=.ok (Di P a) w:=by
 induction a with
 | nil=>rfl
 | cons fd a ih=>
  simp only [nz,az] at h;obtain ⟨i,hi⟩:=cf h.1;have ih:=ih h.2;simp only [zb,ay,gn hi,aA,aF,ih];rfl
theorem OJ {t:TypeId} {g:Array (Nat×Operand)} (F:o.op=.build t g) (J:TR ι s.T a.tmps) (h:effK P (opd s.T) s.H f (.build t g) c=some z):
  ∃e,c e=some z/\gR P ι f o a w e:=by
 simp only [effK] at h;obtain ⟨O,v,h⟩:=ax h;obtain ⟨A,hp,h⟩:=ax h;obtain ⟨x,i,L,M,K,D⟩:=wP ι v;obtain ⟨E,G⟩:=vN J _ _ hp;have j:=nZ K;have k:(g.map λ(i,x)=>(i,a.eval x)).toList=g.toList.map λ(i,x)=>(i,a.eval x):=by simp
 split at h
 ·rename_i m u;split at h
  ·rename_i p;obtain ⟨l,C,h⟩:=ax h;obtain ⟨r,b,d⟩:=wB _ _ (g.toList.map λ(i,x)=>(i,a.eval x)) _ _ _ j E (by simp [VRs]) G C;refine ⟨_,h,.val (x:=.agg r) ?_ (by simp only [VR];exact ⟨r,rfl,d⟩)⟩;have I:(m.mapM λ(f:Field)=>do pure (f.offset,<-sizeOf f.type)).run P w=.ok (Di P m.toList).toArray w:=by
    rw [SG];simp only [Sem.run_map,JQ m.toList p,aA]
   have B:(λ(i:Nat)=>(Di P m.toList).toArray[i]?)=λ(i:Nat)=>(Di P m.toList)[i]?:=by
    funext i;simp
   simp only [execOp,F,Instr.build,ay,D,aA,aY u,I,B,k,b,aF]
  ·cases h
 ·rename_i n e u;split at h
  ·rename_i q;obtain ⟨N,y⟩:=cf q;obtain ⟨l,C,h⟩:=ax h;obtain ⟨r,b,d⟩:=wB _ _ (g.toList.map λ(i,x)=>(i,a.eval x)) _ _ _ j E (by simp [VRs]) G C;refine ⟨_,h,.val (x:=.agg r) ?_ (qQ d)⟩;simp only [execOp,F,Instr.build,ay,D,aA,aY u,gn y,k,b,aF]
  ·cases h
 ·cases h
theorem yf (l:List V):∀n,(BV l n).length=n*l.length
 | 0=>by simp [BV]
 | n+1=>by simp [BV,yf l n,iq,pw]
theorem Rx {ι:Inj} {l:List V} {a:Array Value} (h:VRs ι l a.toList) (m:0<l.length):∀n,VRs ι (BV l n) ((Array.range (n*l.length)).map (a[·%a.size]!)).toList:=by
 have b:a.size=l.length:=by simpa using h.length
 intro n;refine VRs.of_get (by simp [yf]) λj v x e hx=>?_;have key:∀n j v,(BV l n)[j]?=some v->l[j%l.length]?=some v:=by
  intro n
  induction n with
  | zero=>intro j v h;simp [BV] at h
  | succ n ih=>
   intro j v h;simp only [BV] at h;by_cases c:j<l.length
   ·rw [oe c] at h;rw [rG c];exact h
   ·rw [ra (by omega)] at h;have:=ih _ _ h;rwa [<-Nat.mod_eq_sub_mod (by omega)] at this
 have k:=key n j v e;obtain ⟨y,hy,f⟩:=h.get k;have d:j<n*l.length:=by
  rcases aH j (n*l.length) with i | i
  ·exact i
  ·rw [ga (by rw [yf];omega)] at e;cases e
 have g:j%l.length<a.size:=by rw [b];exact sc _ m
 have:x=a[j%a.size]! := by
  simp [d] at hx;exact hx.symm
 rw [this,b];have hy':a[j%l.length]?=some y:=by simpa using hy
 have:a[j%l.length]! = y:=by
  rw [getElem!_def,hy']
 rw [this];exact f
theorem zJ {t e:TypeId} {n:Nat} {zc:Value} {i:TypeInfo} {h:Array (Nat×Value)} {g:Array Value} {w:World} (k:P.underlying t=some (.slice e)) (hi:P.info? e=some i)
  (d:n*P.cellsOf e<=1000) (j:∀w,(zeroValue e).run P w=.ok zc w)
  (a:Instr.fill (λi=>some (i*P.cellsOf e,P.cellsOf e)) ((Array.range (n*P.cellsOf e)).map (zc.cells[·%zc.cells.size]!)) h.toList=some g):
  (Instr.buildSlice t n h).run P w=.ok (.slice (some ⟨w.heap.size,0,none⟩) n n) (w.alloc (.cells g e)):=by
 have f:¬(n*P.cellsOf e>2 ^ 24):=Nat.not_lt.2 (rQ d (by decide));unfold Instr.buildSlice;simp only [ay,aA,aY k,gn hi];rw [ab f];by_cases c:n*P.cellsOf e=0
 ·rw [ae c];have b:Array.range 0=#[]:=rfl;rw [c] at a ⊢;rw [b,Ir] at a;simp only [ay,aF,aA,b,Ir,a,newRow,xw,zw]
 ·rw [ab c];simp only [ay,j,aF,aA,a,newRow,xw,zw]
theorem zC {t:TypeId} {n:Nat} {y:Array (Nat×Operand)} (M:o.op=.buildSlice t n y) (U:TR ι s.T a.tmps) (O:ι f=none) (h:effK P (opd s.T) s.H f (.buildSlice t n y) c=some z):
  ∃e,c e=some z/\gR P ι f o a w e:=by
 simp only [effK] at h;split at h
 ·rename_i e Q;split at h
  ·rename_i J;simp only [az] at J;obtain ⟨G,r⟩:=J;obtain ⟨i',E⟩:=cf r;obtain ⟨zv,D,h⟩:=ax h;obtain ⟨I,hp,h⟩:=ax h;split at h
   ·rename_i b;have b:=bB b;obtain ⟨l,V,h⟩:=ax h;obtain ⟨x,i,Y,Z,W,N⟩:=wP ι D;obtain ⟨R,X⟩:=vN U _ _ hp;have B:=nZ W;have F:(y.map λ(i,x)=>(i,a.eval x)).toList=y.toList.map λ(i,x)=>(i,a.eval x):=by simp
    have hpos':0<P.cellsOf e:=aL r;have A:=Rx B (by omega) n;rw [b] at A;obtain ⟨v,g,j⟩:=wB _ _ (y.toList.map λ(i,x)=>(i,a.eval x)) _ _ _ A R (by simp [VRs]) X V;rw [<-F] at g;have k:=zJ (w:=w) Q E (aL G) N g;split at h
    ·rename_i tr S;split at h
     case h_2=>cases h
     rename_i u;simp only [az,jG] at u;obtain ⟨L,K⟩:=u;obtain ⟨m,C,h⟩:=ax h;obtain ⟨m1,m2⟩:=Fh C (by rw [K,L]);have p:v.size=n*tr.length:=by rw [L,<-K];simpa using j.length
     rw [m2] at j;refine ⟨_,h,.mkR (d:=w.drawn) (q:=(Rf.of w.heap.size (n) (n))) (x:=.slice (some ⟨w.heap.size,0,none⟩) n n) (ob:=.cells v e) ?_ rfl rfl
      ⟨v,e,(0,0),rfl,m1,aX _,by rw [p];simp,?_,.inr (tX _)⟩ ?_⟩
     ·simp only [execOp,M,ay,k,aA,aF]
     ·rw [<-I1 ι m _ j,m1];simp only [cU];exact js (by rw [Nj,p];exact aX _)
     ·simp only [VR];exact .inl ⟨_,dN _ _ _,rfl⟩
    ·refine ⟨_,h,.mk (x:=.slice (some ⟨w.heap.size,0,none⟩) n n) (ob:=.cells v e) ?_ ⟨v,e,(0,0),rfl,VRs.mono (ql O) _ _ j,tX _⟩ ?_⟩
     ·simp only [execOp,M,ay,k,aA,aF]
     ·simp only [VR];exact ⟨_,n,dN _ _ _,λm C=>by simpa using C,aX _,rfl⟩
   ·cases h
  ·cases h
 ·cases h
theorem Nv {t:TypeId} {x:Operand} (g:o.op=.range t x) (d:TR ι s.T a.tmps) (h:effK P (opd s.T) s.H f (.range t x) c=some z):
  ∃e,c e=some z/\gR P ι f o a w e:=by
 simp only [effK] at h;split at h
 ·rename_i i;split at h
  ·rename_i l hx;have b:=bu d hx;simp only [VR] at b;refine ⟨_,h,.mk (x:=.pointer (some ⟨w.heap.size,0,none⟩)) (ob:=.stringIter ⟨l.toArray⟩ 0) ?_ rfl (by simp only [VR];exact ⟨_,dN _ _ _,rfl⟩)⟩;simp only [execOp,g,Instr.range,ay,aA,aY i,b,aF,xw,zw]
  ·cases h
 ·cases h
end ops
end Go.Abs
