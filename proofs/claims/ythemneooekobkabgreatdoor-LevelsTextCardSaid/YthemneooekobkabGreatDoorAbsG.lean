
/- The abstract effect of an operation is what the model's own operation does: all operations but calls of Go functions.
   Conditions: none; generic over the program. -/
import Derived.Test.YthemneooekobkabGreatDoorAbsF
set_option linter.unusedSimpArgs false
set_option linter.unusedVariables false
namespace Go.Abs
variable {P:Program}
theorem qt (o j:Nat):padd o j=o+j:=by
 unfold padd;cases h:Nat.beq o 0 with
 | true=>have:o=0:=bP h;simp [this]
 | false=>rfl
theorem yx (j s:Nat):pmul j s=j*s:=by
 unfold pmul;cases h:Nat.beq s 1 with
 | true=>have:s=1:=bP h;simp [this]
 | false=>rfl
theorem oH {n j:Nat} {i:Int} (h:ix n i=some j):0<=i/\i<n/\j=i.toNat:=by
 unfold ix at h;split at h
 ·rename_i hc;simp only [au] at h;exact ⟨hc.1,hc.2,h.symm⟩
 ·cases h
theorem lX {n j:Nat} {i:Int} (h:bx n i=some j):0<=i/\i<=n/\j=i.toNat:=by
 unfold bx at h;split at h
 ·rename_i hc;simp only [au] at h;exact ⟨hc.1,hc.2,h.symm⟩
 ·cases h
theorem o9 {ι:Inj} {T:List (Nat×Option V)} {a:Act} (b:TR ι T a.tmps) {x:Option Operand} {l:Option Int} (h:rr (opd T) x=some l):
  (l=none/\x.map a.eval=none)\/∃k n,l=some n/\x.map a.eval=some (.int k n):=by
 unfold rr at h;split at h
 ·simp only [au] at h;subst h;exact .inl ⟨rfl,rfl⟩
 ·split at h
  ·rename_i k n c;simp only [au] at h;subst h;have:=bA b c;simp only [VR] at this;exact .inr ⟨k,n,rfl,by simp [this]⟩
  ·cases h
theorem yn {α:Type} {ι:Inj} {T:List (Nat×Option V)} {a:Act} (r:TR ι T a.tmps) {lo hi:Option Operand} {l h:Option Int} (x:rr (opd T) lo=some l)
  (t:rr (opd T) hi=some h) {n len:Nat} {isSlice:Bool} {c:Nat->Nat->Option α} {z:α} (f:(hiK n len h λh=>loK h l λl=>c h l)=some z):
  ∃H L,c H L=some z/\(h=none\/H<=n)/\(h=none->H=len)/\(h≠none->H<=n)/\L<=H/\(l=none->L=0)/\
   ∀w,(Instr.sliceBounds isSlice len n (lo.map a.eval) (hi.map a.eval) none).run P w=.ok (L,H,n) w:=by
 have o:∀{H:Nat},loK H l (c H)=some z->∃L,c H L=some z/\L<=H/\(l=none->L=0)/\
   ∀w,(match lo.map a.eval with | some v=>Instr.sliceBound v H .sliceB | none=>pure 0).run P w=.ok L w:=by
  intro H f;rcases o9 r x with ⟨rfl,g⟩ | ⟨k,m,rfl,g⟩
  ·exact ⟨0,f,ft _,λ_=>rfl,λw=>by rw [g];rfl⟩
  ·simp only [loK] at f;obtain ⟨L,j,i⟩:=av f;obtain ⟨g0,q,rfl⟩:=lX j;exact ⟨_,i,by omega,by simp,λw=>by rw [g];exact run_sliceBound w k m H .sliceB g0 q⟩
 rcases o9 r t with ⟨rfl,g⟩ | ⟨k,m,rfl,g⟩
 ·simp only [hiK] at f;obtain ⟨L,j,i,p,d⟩:=o f;refine ⟨len,L,j,.inl rfl,λ_=>rfl,by simp,i,p,λw=>?_⟩;have d:=d w;rw [g];simp only [Instr.sliceBounds,aw,aD,az,xh,bv,aB];cases b:lo.map a.eval with
  | none=>rw [b] at d;simp only [aD,yq,yL] at d;simp [d]
  | some v=>rw [b] at d;simp only [] at d;simp [d]
 ·simp only [hiK] at f;obtain ⟨H,j,i⟩:=av f;obtain ⟨g0,q,rfl⟩:=lX j;obtain ⟨L,p,d,s,e⟩:=o i;refine ⟨_,L,p,.inr (by omega),by simp,λ_=>by omega,d,s,λw=>?_⟩;have e:=e w;rw [g];have u:=run_sliceBound (P:=P) w k m n (if isSlice=true then .sliceAcap else .sliceAlen) g0 q;simp only [Instr.sliceBounds,aw,aD,az,xh,bv,aB,u];cases b:lo.map a.eval with
  | none=>rw [b] at e;simp only [aD,yq,yL] at e;simp [e]
  | some v=>rw [b] at e;simp only [] at e;simp [e]
section ops
variable {α:Type} {ι:Inj} {s:St} {a:Act} {w:World} {f:Nat} {o:Oper} {c:Eff->Option α} {z:α}
theorem OK {t:TypeId} {x:Operand} (C:o.op=.load t x) (B:TR ι s.T a.tmps) (D:WR ι s.H s.nb w) (h:effK P (opd s.T) s.H f (.load t x) c=some z):
  ∃e,c e=some z/\gO P ι f o a w e:=by
 simp only [effK] at h;split at h
 ·rename_i b off hx;split at h
  ·rename_i blk A;obtain ⟨v,X,r,u,J,n,y⟩:=Ht D A h;have g:=bA B hx;simp only [VR] at g;obtain ⟨O,i,m⟩:=g;rw [J] at i;cases i;exact ⟨_,u,.val (by simp only [execOp,C,m,aw,n,az,aD]) y⟩
  ·cases h
 ·rename_i M b j off hx;split at h
  case h_2=>cases h
  rename_i tr l A;split at h
  case h_2=>cases h
  rename_i p;have p:=bP p;subst p;obtain ⟨I,G,h⟩:=av h;have g:=bA B hx;simp only [VR] at g;obtain ⟨q,i,m⟩:=g;rcases jE D A with ⟨U,V,e,fr,d,F,R,Q,S,E,N⟩ | ⟨d,_⟩
  ·rw [i] at d;cases d;obtain ⟨K,W⟩:=Rq E G;have L:l.length*tr.length<=q.k*tr.length:=oS _ (by omega);rw [<-iP] at m;obtain ⟨v,X,u,n,y⟩:=QB (o:=off) F (by rw [lE,K];exact (nZ ι tr I _).2 rfl) (by rw [lE];omega) h;exact ⟨_,u,.val (by simp only [execOp,C,m,aw,n,az,aD]) y⟩
  ·rw [i] at d;cases d
 ·cases h
theorem NE {t:TypeId} {x y:Operand} (O:o.op=.store t x y) (A:TR ι s.T a.tmps) (R:WR ι s.H s.nb w) (h:effK P (opd s.T) s.H f (.store t x y) c=some z):
  ∃e,c e=some z/\gO P ι f o a w e:=by
 simp only [effK] at h;split at h
 ·rename_i b off hx;obtain ⟨v,hy,h⟩:=av h;split at h
  ·rename_i blk K;obtain ⟨N,I,r,d,M,D,F⟩:=M6 R K (bA A hy) h;have p:=bA A hx;simp only [VR] at p;obtain ⟨r',g,B⟩:=p;rw [M] at g;cases g;refine ⟨_,d,?_⟩;unfold gO;exact ⟨r,M,λ_=>⟨I,.skip,by simp only [execOp,O,B,aw,D,az,aD],F,.skip rfl⟩⟩
  ·cases h
 ·rename_i zz b j off hx;obtain ⟨v,hy,Q⟩:=av h;clear h;have h:=Q;clear Q;split at h
  case h_2=>cases h
  rename_i tr l K;split at h
  case h_2=>cases h
  rename_i m;have m:=bP m;subst m;obtain ⟨xr,L,h⟩:=av h;have p:=bA A hx;simp only [VR] at p;obtain ⟨q,g,B⟩:=p;rcases jE R K with ⟨q',U,e,fr,i,g2,Y,W,Z,S,V⟩ | ⟨i,_⟩
  ·rw [g] at i;cases i;obtain ⟨r1,r2⟩:=Rq S L;have hle:l.length*tr.length<=q.k*tr.length:=oS _ (by omega);rw [<-iP] at B;obtain ⟨l',X,d,M,D,F⟩:=LX (o:=off) (fr:=fr) g2 (by rw [lE,r1];exact (nZ ι tr xr _).2 rfl) (by rw [lE];omega) (bA A hy) h;simp only at d;obtain ⟨C,J,d⟩:=av d;have hX:X=vals tr C:=(nZ ι tr C X).1 (by rw [<-vZ J];exact D);subst hX;have G:j<l.length:=by
    rcases aH j l.length with E | E
    ·exact E
    ·rw [g9 E] at L;cases L
   have u:(splA U (q.o+j*tr.length) (vals tr C)).size=U.size:=xk (by rw [kh];omega);refine ⟨_,d,?_⟩;unfold gO;refine ⟨q,g,λm=>?_⟩;have n:=V.resolve_left (by rw [m];simp);refine ⟨_,.skip,by simp only [execOp,O,B,aw,F n,az,aD];rfl,⟨_,e,fr,rfl,by rw [List.length_set];exact Y,W,by rw [u];exact Z,?_,.inr (by rw [u];exact n)⟩,.skip rfl⟩;exact O0 (by omega) S C G
  ·rw [g] at i;cases i
 ·cases h
theorem MW {t:TypeId} (g:o.op=.alloc t) (h:effK P (opd s.T) s.H f (.alloc t) c=some z):∃e,c e=some z/\gO P ι f o a w e:=by
 simp only [effK] at h;obtain ⟨v,d,h⟩:=av h;obtain ⟨x,i,k,l,b,j⟩:=wi (upd ι f (some (Rf.of w.heap.size (0) (0)))) d;refine ⟨_,h,.mk (x:=.pointer (some ⟨w.heap.size,0,none⟩)) (ob:=.cells x.cells t) ?_ (HD (Tn b) t) ?_⟩
 ·simp only [execOp,g,Instr.alloc,aw,j,az,newVar,newRow,yO,aD,yc]
 ·simp only [VR];exact ⟨_,dD _ _ _,rfl⟩
theorem RO {t:TypeId} {x:Operand} (g:o.op=.box t x) (d:TR ι s.T a.tmps) (b:ι f=none) (h:effK P (opd s.T) s.H f (.box t x) c=some z):
  ∃e,c e=some z/\gO P ι f o a w e:=by
 simp only [effK] at h;obtain ⟨v,i,h⟩:=av h;have hv':=bA d i;refine ⟨_,h,.mk (x:=.pointer (some ⟨w.heap.size,0,none⟩)) (ob:=.cells (a.eval x).cells t) ?_ (HD (VR.mono (pQ b) _ _ hv') t) ?_⟩
 ·simp only [execOp,g,Instr.box,aw,az,newVar,newRow,yO,aD,yc]
 ·simp only [VR];exact ⟨_,dD _ _ _,rfl⟩
theorem Jt (a:List Field) (h:(a.all λfd=>Nat.blt 0 (P.cellsOf fd.type))=true) (w:World):
  (a.mapM λ(f:Field)=>do pure (f.offset,<-sizeOf f.type)).run P w=.ok (D4 P a) w:=by
 induction a with
 | nil=>rfl
 | cons fd a ih=>
  simp only [mY,aA] at h;obtain ⟨i,hi⟩:=cf h.1;have ih:=ih h.2;simp only [Ff,aw,gv hi,az,aD,ih];rfl
theorem KX {t:TypeId} {g:Array (Nat×Operand)} (D:o.op=.build t g) (J:TR ι s.T a.tmps) (h:effK P (opd s.T) s.H f (.build t g) c=some z):
  ∃e,c e=some z/\gO P ι f o a w e:=by
 simp only [effK] at h;obtain ⟨N,v,h⟩:=av h;obtain ⟨y,hp,h⟩:=av h;obtain ⟨x,i,L,O,I,E⟩:=wi ι v;obtain ⟨F,G⟩:=uV J _ _ hp;have p:=nJ I;have k:(g.map λ(i,x)=>(i,a.eval x)).toList=g.toList.map λ(i,x)=>(i,a.eval x):=by simp
 split at h
 ·rename_i m u;split at h
  ·rename_i q;obtain ⟨l,C,h⟩:=av h;obtain ⟨r,b,d⟩:=wq _ _ (g.toList.map λ(i,x)=>(i,a.eval x)) _ _ _ p F (by simp [VRs]) G C;refine ⟨_,h,.val (x:=.agg r) ?_ (by simp only [VR];exact ⟨r,rfl,d⟩)⟩;have K:(m.mapM λ(f:Field)=>do pure (f.offset,<-sizeOf f.type)).run P w=.ok (D4 P m.toList).toArray w:=by
    rw [QL];simp only [Sem.run_map,Jt m.toList q,az]
   have A:(λ(i:Nat)=>(D4 P m.toList).toArray[i]?)=λ(i:Nat)=>(D4 P m.toList)[i]?:=by
    funext i;simp
   simp only [execOp,D,Instr.build,aw,E,az,be u,K,A,k,b,aD]
  ·cases h
 ·rename_i n e u;split at h
  ·rename_i j;obtain ⟨M,B⟩:=cf j;obtain ⟨l,C,h⟩:=av h;obtain ⟨r,b,d⟩:=wq _ _ (g.toList.map λ(i,x)=>(i,a.eval x)) _ _ _ p F (by simp [VRs]) G C;refine ⟨_,h,.val (x:=.agg r) ?_ (qw d)⟩;simp only [execOp,D,Instr.build,aw,E,az,be u,gv B,k,b,aD]
  ·cases h
 ·cases h
theorem wH (l:List V):∀n,(B8 l n).length=n*l.length
 | 0=>by simp [B8]
 | n+1=>by simp [B8,wH l n,gY,qY]
theorem O4 {ι:Inj} {l:List V} {a:Array Value} (h:VRs ι l a.toList) (m:0<l.length):∀n,VRs ι (B8 l n) ((Array.range (n*l.length)).map (a[·%a.size]!)).toList:=by
 have b:a.size=l.length:=by simpa using h.length
 intro n;refine VRs.of_get (by simp [wH]) λj v x d hx=>?_;have key:∀n j v,(B8 l n)[j]?=some v->l[j%l.length]?=some v:=by
  intro n
  induction n with
  | zero=>intro j v h;simp [B8] at h
  | succ n ih=>
   intro j v h;simp only [B8] at h;by_cases c:j<l.length
   ·rw [od c] at h;rw [rP c];exact h
   ·rw [qG (by omega)] at h;have:=ih _ _ h;rwa [<-Nat.mod_eq_sub_mod (by omega)] at this
 have k:=key n j v d;obtain ⟨y,hy,e⟩:=h.get k;have f:j<n*l.length:=by
  rcases aH j (n*l.length) with g | g
  ·exact g
  ·rw [g9 (by rw [wH];omega)] at d;cases d
 have i:j%l.length<a.size:=by rw [b];exact A7 _ m
 have:x=a[j%a.size]! := by
  simp [f] at hx;exact hx.symm
 rw [this,b];have hy':a[j%l.length]?=some y:=by simpa using hy
 have:a[j%l.length]! = y:=by
  rw [getElem!_def,hy']
 rw [this];exact e
theorem y4 {t e:TypeId} {n:Nat} {zc:Value} {i:TypeInfo} {g:Array (Nat×Value)} {h:Array Value} {w:World} (j:P.underlying t=some (.slice e)) (hi:P.info? e=some i)
  (d:n*P.cellsOf e<=1000) (k:∀w,(zeroValue e).run P w=.ok zc w)
  (a:Instr.fill (λi=>some (i*P.cellsOf e,P.cellsOf e)) ((Array.range (n*P.cellsOf e)).map (zc.cells[·%zc.cells.size]!)) g.toList=some h):
  (Instr.buildSlice t n g).run P w=.ok (.slice (some ⟨w.heap.size,0,none⟩) n n) (w.alloc (.cells h e)):=by
 have f:¬(n*P.cellsOf e>2 ^ 24):=Nat.not_lt.2 (qX d (by decide));unfold Instr.buildSlice;simp only [aw,az,be j,gv hi];rw [ab f];by_cases c:n*P.cellsOf e=0
 ·rw [ae c];have b:Array.range 0=#[]:=rfl;rw [c] at a ⊢;rw [b,Iz] at a;simp only [aw,aD,az,b,Iz,a,newRow,yO,yc]
 ·rw [ab c];simp only [aw,k,aD,az,a,newRow,yO,yc]
theorem yT {t:TypeId} {n:Nat} {v:Array (Nat×Operand)} (K:o.op=.buildSlice t n v) (Q:TR ι s.T a.tmps) (W:ι f=none) (h:effK P (opd s.T) s.H f (.buildSlice t n v) c=some z):
  ∃e,c e=some z/\gO P ι f o a w e:=by
 simp only [effK] at h;split at h
 ·rename_i e S;split at h
  ·rename_i M;simp only [aA] at M;obtain ⟨I,k⟩:=M;obtain ⟨Z,F⟩:=cf k;obtain ⟨zv,C,h⟩:=av h;obtain ⟨D,hp,h⟩:=av h;split at h
   ·rename_i b;have b:=bP b;obtain ⟨l,X,h⟩:=av h;obtain ⟨x,i,Y,h2,N,R⟩:=wi ι C;obtain ⟨U,V⟩:=uV Q _ _ hp;have E:=nJ N;have B:(v.map λ(i,x)=>(i,a.eval x)).toList=v.toList.map λ(i,x)=>(i,a.eval x):=by simp
    have hpos':0<P.cellsOf e:=aJ k;have A:=O4 E (by omega) n;rw [b] at A;obtain ⟨u,g,j⟩:=wq _ _ (v.toList.map λ(i,x)=>(i,a.eval x)) _ _ _ A U (by simp [VRs]) V X;rw [<-B] at g;have r:=y4 (w:=w) S F (aJ I) R g;split at h
    ·rename_i tr O;split at h
     case h_2=>cases h
     rename_i y;simp only [aA,jn] at y;obtain ⟨J,L⟩:=y;obtain ⟨m,G,h⟩:=av h;obtain ⟨m1,m2⟩:=CY G (by rw [L,J]);have p:u.size=n*tr.length:=by rw [J,<-L];simpa using j.length
     rw [m2] at j;refine ⟨_,h,.mkR (d:=w.drawn) (q:=(Rf.of w.heap.size (n) (n))) (x:=.slice (some ⟨w.heap.size,0,none⟩) n n) (ob:=.cells u e) ?_ rfl rfl
      ⟨u,e,(0,0),rfl,m1,aY _,by rw [p];simp,?_,.inr (tg _)⟩ ?_⟩
     ·simp only [execOp,K,aw,r,az,aD]
     ·rw [<-G8 ι m _ j,m1];simp only [bV];exact jd (by rw [NQ,p];exact aY _)
     ·simp only [VR];exact .inl ⟨_,dD _ _ _,rfl⟩
    ·refine ⟨_,h,.mk (x:=.slice (some ⟨w.heap.size,0,none⟩) n n) (ob:=.cells u e) ?_ ⟨u,e,(0,0),rfl,VRs.mono (pQ W) _ _ j,tg _⟩ ?_⟩
     ·simp only [execOp,K,aw,r,az,aD]
     ·simp only [VR];exact ⟨_,n,dD _ _ _,λm G=>by simpa using G,aY _,rfl⟩
   ·cases h
  ·cases h
 ·cases h
theorem K7 {t:TypeId} {x:Operand} (i:o.op=.range t x) (g:TR ι s.T a.tmps) (h:effK P (opd s.T) s.H f (.range t x) c=some z):
  ∃e,c e=some z/\gO P ι f o a w e:=by
 simp only [effK] at h;split at h
 ·rename_i d;split at h
  ·rename_i l hx;have b:=bA g hx;simp only [VR] at b;refine ⟨_,h,.mk (x:=.pointer (some ⟨w.heap.size,0,none⟩)) (ob:=.stringIter ⟨l.toArray⟩ 0) ?_ rfl (by simp only [VR];exact ⟨_,dD _ _ _,rfl⟩)⟩;simp only [execOp,i,Instr.range,aw,az,be d,b,aD,yO,yc]
  ·cases h
 ·cases h
end ops
end Go.Abs
