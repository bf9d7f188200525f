
import Derived.Test.YtjkmipianfkncaaGreatDoorAbsF
set_option linter.unusedSimpArgs false
set_option linter.unusedVariables false
set_option linter.defProp false
namespace Go.Abs
variable {P:Program}
def pg(o j:Nat):padd o j=o+j:=by
 unfold padd;cases h:Nat.beq o 0 with
 | true=>have:o=0:=bG h;simp[this]
 | false=>rfl
def xb(j s:Nat):pmul j s=j*s:=by
 unfold pmul;cases h:Nat.beq s 1 with
 | true=>have:s=1:=bG h;simp[this]
 | false=>rfl
def om{n j:Nat}{i:Int}(h:ix n i=some j):0<=i/\i<n/\j=i.toNat:=by
 unfold ix at h;split at h
 ·rename_i hc;simp only[ar]at h;exact⟨hc.1,hc.2,h.symm⟩
 ·cases h
def lE{n j:Nat}{i:Int}(h:bx n i=some j):0<=i/\i<=n/\j=i.toNat:=by
 unfold bx at h;split at h
 ·rename_i hc;simp only[ar]at h;exact⟨hc.1,hc.2,h.symm⟩
 ·cases h
def oL{ι:Inj}{T:List (Nat×Option V)}{a:Act}(b:TR ι T a.tmps){x:Option Operand}{l:Option Int}(h:ql (opd T) x=some l):
  (l=none/\x.map a.eval=none)\/∃k n,l=some n/\x.map a.eval=some (.int k n):=by
 unfold ql at h;split at h
 ·simp only[ar]at h;subst h;exact .inl ⟨rfl,rfl⟩
 ·split at h
  ·rename_i k n c;simp only[ar]at h;subst h;have:=br b c;simp only[VR]at this;exact .inr ⟨k,n,rfl,by simp[this]⟩
  ·cases h
def xL{α:Type}{ι:Inj}{T:List (Nat×Option V)}{a:Act}(r:TR ι T a.tmps){lo hi:Option Operand}{l h:Option Int}(t:ql (opd T) lo=some l)
  (u:ql (opd T) hi=some h) {n len:Nat} {isSlice:Bool} {c:Nat->Nat->Option α} {z:α} (e:(hiK n len h λh=>loK h l λl=>c h l)=some z):
  ∃H L,c H L=some z/\(h=none\/H<=n)/\(h=none->H=len)/\(h≠none->H<=n)/\L<=H/\(l=none->L=0)/\
   ∀w,(Instr.sliceBounds isSlice len n (lo.map a.eval) (hi.map a.eval) none).run P w=.ok (L,H,n) w:=by
 have j:∀{H:Nat},loK H l (c H)=some z->∃L,c H L=some z/\L<=H/\(l=none->L=0)/\
   ∀w,(match lo.map a.eval with | some v=>Instr.sliceBound v H .sliceB | none=>pure 0).run P w=.ok L w:=by
  intro H e;rcases oL r t with⟨rfl,g⟩ | ⟨k,m,rfl,g⟩
  ·exact⟨0,e,du _,λ_=>rfl,λw=>by rw[g];rfl⟩
  ·simp only[loK]at e;obtain⟨L,o,i⟩:=av e;obtain⟨g0,q,rfl⟩:=lE o;exact⟨_,i,by omega,by simp,λw=>by rw[g];exact run_sliceBound w k m H .sliceB g0 q⟩
 rcases oL r u with⟨rfl,g⟩ | ⟨k,m,rfl,g⟩
 ·simp only[hiK]at e;obtain⟨L,o,i,p,d⟩:=j e;refine⟨len,L,o,.inl rfl,λ_=>rfl,by simp,i,p,λw=>?_⟩;have d:=d w;rw[g];simp only[Instr.sliceBounds,aw,aB,ay,ym,bj,az];cases b:lo.map a.eval with
  | none=>rw[b]at d;simp only[aB,wT,wh]at d;simp[d]
  | some v=>rw[b]at d;simp only[]at d;simp[d]
 ·simp only[hiK]at e;obtain⟨H,o,i⟩:=av e;obtain⟨g0,q,rfl⟩:=lE o;obtain⟨L,p,d,s,f⟩:=j i;refine⟨_,L,p,.inr (by omega),by simp,λ_=>by omega,d,s,λw=>?_⟩;have f:=f w;rw[g];have x:=run_sliceBound (P:=P) w k m n (if isSlice=true then .sliceAcap else .sliceAlen) g0 q;simp only[Instr.sliceBounds,aw,aB,ay,ym,bj,az,x];cases b:lo.map a.eval with
  | none=>rw[b]at f;simp only[aB,wT,wh]at f;simp[f]
  | some v=>rw[b]at f;simp only[]at f;simp[f]
section ops
variable {α:Type} {ι:Inj} {s:St} {a:Act} {w:World} {f:Nat} {o:Oper} {c:Eff->Option α} {z:α}
def OR{t:TypeId}{x:Operand}(B:o.op=.load t x)(D:TR ι s.T a.tmps)(C:WR ι s.H s.nb w)(h:effK P (opd s.T) s.H f (.load t x) c=some z):
  ∃e,c e=some z/\gH P ι f o a w e:=by
 simp only[effK]at h;split at h
 ·rename_i b off hx;split at h
  ·rename_i blk p;obtain⟨v,X,r,A,I,n,u⟩:=HE C p h;have g:=br D hx;simp only[VR]at g;obtain⟨U,d,m⟩:=g;rw[I]at d;cases d;exact⟨_,A,.val (by simp only[execOp,B,m,aw,n,ay,aB]) u⟩
  ·cases h
 ·rename_i M b j off hx;split at h
  case h_2=>cases h
  rename_i tr l p;split at h
  case h_2=>cases h
  rename_i y;have y:=bG y;subst y;obtain⟨J,F,h⟩:=av h;have g:=br D hx;simp only[VR]at g;obtain⟨q,d,m⟩:=g;rcases jp C p with⟨V,S,e,fr,i,K,N,R,W,L,Q⟩ | ⟨i,_⟩
  ·rw[d]at i;cases i;obtain⟨E,O⟩:=QK L F;have G:l.length*tr.length<=q.k*tr.length:=n8 _ (by omega);rw[<-gX]at m;obtain⟨v,X,A,n,u⟩:=N6 (o:=off) K (by rw[kS,E];exact(nQ ι tr J _).2 rfl) (by rw[kS];omega) h;exact⟨_,A,.val (by simp only[execOp,B,m,aw,n,ay,aB]) u⟩
  ·rw[d]at i;cases i
 ·cases h
def K4{t:TypeId}{x y:Operand}(N:o.op=.store t x y)(C:TR ι s.T a.tmps)(R:WR ι s.H s.nb w)(h:effK P (opd s.T) s.H f (.store t x y) c=some z):
  ∃e,c e=some z/\gH P ι f o a w e:=by
 simp only[effK]at h;split at h
 ·rename_i b off hx;obtain⟨v,hy,h⟩:=av h;split at h
  ·rename_i blk I;obtain⟨Q,D,r,g,G,E,K⟩:=Jm R I (br C hy) h;have m:=br C hx;simp only[VR]at m;obtain⟨r',d,A⟩:=m;rw[G]at d;cases d;refine⟨_,g,?_⟩;unfold gH;exact⟨r,G,λ_=>⟨D,.skip,by simp only[execOp,N,A,aw,E,ay,aB],K,.skip rfl⟩⟩
  ·cases h
 ·rename_i zz b j off hx;obtain⟨v,hy,U⟩:=av h;clear h;have h:=U;clear U;split at h
  case h_2=>cases h
  rename_i tr l I;split at h
  case h_2=>cases h
  rename_i u;have u:=bG u;subst u;obtain⟨xr,F,h⟩:=av h;have m:=br C hx;simp only[VR]at m;obtain⟨q,d,A⟩:=m;rcases jp R I with⟨q',O,e,fr,n,g2,Y,g4,g5,S,Z⟩ | ⟨n,_⟩
  ·rw[d]at n;cases n;obtain⟨V,r2⟩:=QK S F;have W:l.length*tr.length<=q.k*tr.length:=n8 _ (by omega);rw[<-gX]at A;obtain⟨l',X,g,G,E,K⟩:=MZ (o:=off) (fr:=fr) g2 (by rw[kS,V];exact(nQ ι tr xr _).2 rfl) (by rw[kS];omega) (br C hy) h;simp only at g;obtain⟨B,J,g⟩:=av g;have hX:X=vals tr B:=(nQ ι tr B X).1 (by rw[<-vR J];exact E);subst hX;have L:j<l.length:=by
    rcases aF j l.length with M | M
    ·exact M
    ·rw[gU M]at F;cases F
   have p:(splA O (q.o+j*tr.length) (vals tr B)).size=O.size:=yb (by rw[jN];omega);refine⟨_,g,?_⟩;unfold gH;refine⟨q,d,λu=>?_⟩;have i:=Z.resolve_left (by rw[u];simp);refine⟨_,.skip,by simp only[execOp,N,A,aw,K i,ay,aB];rfl,⟨_,e,fr,rfl,by rw[List.length_set];exact Y,g4,by rw[p];exact g5,?_,.inr (by rw[p];exact i)⟩,.skip rfl⟩;exact N5 (by omega) S B L
  ·rw[d]at n;cases n
 ·cases h
def JA{t:TypeId}(j:o.op=.alloc t)(h:effK P (opd s.T) s.H f (.alloc t) c=some z):∃e,c e=some z/\gH P ι f o a w e:=by
 simp only[effK]at h;obtain⟨v,g,h⟩:=av h;obtain⟨x,i,k,l,d,b⟩:=vD (upd ι f (some (Rf.of w.heap.size (0) (0)))) g;refine⟨_,h,.mk (x:=.pointer (some ⟨w.heap.size,0,none⟩)) (ob:=.cells x.cells t) ?_ (Hf (QP d) t) ?_⟩
 ·simp only[execOp,j,Instr.alloc,aw,b,ay,newVar,newRow,wP,aB,xd]
 ·simp only[VR];exact⟨_,dp _ _ _,rfl⟩
def RR{t:TypeId}{x:Operand}(b:o.op=.box t x)(i:TR ι s.T a.tmps)(d:ι f=none)(h:effK P (opd s.T) s.H f (.box t x) c=some z):
  ∃e,c e=some z/\gH P ι f o a w e:=by
 simp only[effK]at h;obtain⟨v,g,h⟩:=av h;have hv':=br i g;refine⟨_,h,.mk (x:=.pointer (some ⟨w.heap.size,0,none⟩)) (ob:=.cells (a.eval x).cells t) ?_ (Hf (VR.mono (pQ d) _ _ hv') t) ?_⟩
 ·simp only[execOp,b,Instr.box,aw,ay,newVar,newRow,wP,aB,xd]
 ·simp only[VR];exact⟨_,dp _ _ _,rfl⟩
def IP(a:List Field)(h:(a.all λfd=>Nat.blt 0 (P.cellsOf fd.type))=true)(w:World):
  (a.mapM λ(f:Field)=>do pure (f.offset,<-sizeOf f.type)).run P w=.ok (Df P a) w:=by
 induction a with
 | nil=>rfl
 | cons fd a ih=>
  simp only[mK,aC]at h;obtain⟨i,hi⟩:=bX h.1;have ih:=ih h.2;simp only[D9,aw,f9 hi,ay,aB,ih];rfl
def I6{t:TypeId}{g:Array (Nat×Operand)}(C:o.op=.build t g)(J:TR ι s.T a.tmps)(h:effK P (opd s.T) s.H f (.build t g) c=some z):
  ∃e,c e=some z/\gH P ι f o a w e:=by
 simp only[effK]at h;obtain⟨L,y,h⟩:=av h;obtain⟨u,hp,h⟩:=av h;obtain⟨x,i,M,K,G,F⟩:=vD ι y;obtain⟨E,D⟩:=uV J _ _ hp;have q:=nq G;have j:(g.map λ(i,x)=>(i,a.eval x)).toList=g.toList.map λ(i,x)=>(i,a.eval x):=by simp
 split at h
 ·rename_i m hd;split at h
  ·rename_i p;obtain⟨l,B,h⟩:=av h;obtain⟨r,b,d⟩:=vP _ _ (g.toList.map λ(i,x)=>(i,a.eval x)) _ _ _ q E (by simp[VRs]) D B;refine⟨_,h,.val (x:=.agg r) ?_ (by simp only[VR];exact⟨r,rfl,d⟩)⟩;have I:(m.mapM λ(f:Field)=>do pure (f.offset,<-sizeOf f.type)).run P w=.ok (Df P m.toList).toArray w:=by
    rw[Qu];simp only[Sem.run_map,IP m.toList p,ay]
   have v:(λ(i:Nat)=>(Df P m.toList).toArray[i]?)=λ(i:Nat)=>(Df P m.toList)[i]?:=by
    funext i;simp
   simp only[execOp,C,Instr.build,aw,F,ay,aU hd,I,v,j,b,aB]
  ·cases h
 ·rename_i n e hd;split at h
  ·rename_i k;obtain⟨N,A⟩:=bX k;obtain⟨l,B,h⟩:=av h;obtain⟨r,b,d⟩:=vP _ _ (g.toList.map λ(i,x)=>(i,a.eval x)) _ _ _ q E (by simp[VRs]) D B;refine⟨_,h,.val (x:=.agg r) ?_ (o7 d)⟩;simp only[execOp,C,Instr.build,aw,F,ay,aU hd,f9 A,j,b,aB]
  ·cases h
 ·cases h
def xy(l:List V):∀n,(Ar l n).length=n*l.length
 | 0=>by simp[Ar]
 | n+1=>by simp[Ar,xy l n,gY,pD]
def OS{ι:Inj}{l:List V}{a:Array Value}(h:VRs ι l a.toList)(k:0<l.length):∀n,VRs ι (Ar l n) ((Array.range (n*l.length)).map (a[·%a.size]!)).toList:=by
 have b:a.size=l.length:=by simpa using h.length
 intro n;refine VRs.of_get (by simp[xy]) λj v x f hx=>?_;have key:∀n j v,(Ar l n)[j]?=some v->l[j%l.length]?=some v:=by
  intro n
  induction n with
  | zero=>intro j v h;simp[Ar]at h
  | succ n ih=>
   intro j v h;simp only[Ar]at h;by_cases c:j<l.length
   ·rw[nF c]at h;rw[sL c];exact h
   ·rw[pW (by omega)]at h;have:=ih _ _ h;rwa[<-Nat.mod_eq_sub_mod (by omega)]at this
 have m:=key n j v f;obtain⟨y,hy,d⟩:=h.get m;have e:j<n*l.length:=by
  rcases aF j (n*l.length)with i | i
  ·exact i
  ·rw[gU (by rw[xy];omega)]at f;cases f
 have g:j%l.length<a.size:=by rw[b];exact AS _ k
 have:x=a[j%a.size]! := by
  simp[e]at hx;exact hx.symm
 rw[this,b];have hy':a[j%l.length]?=some y:=by simpa using hy
 have:a[j%l.length]! = y:=by
  rw[getElem!_def,hy']
 rw[this];exact d
def yy{t e:TypeId}{n:Nat}{zc:Value}{i:TypeInfo}{h:Array (Nat×Value)}{g:Array Value}{w:World}(hd:P.underlying t=some (.slice e))(hi:P.info? e=some i)
  (d:n*P.cellsOf e<=1000) (j:∀w,(zeroValue e).run P w=.ok zc w)
  (a:Instr.fill (λi=>some (i*P.cellsOf e,P.cellsOf e)) ((Array.range (n*P.cellsOf e)).map (zc.cells[·%zc.cells.size]!)) h.toList=some g):
  (Instr.buildSlice t n h).run P w=.ok (.slice (some ⟨w.heap.size,0,none⟩) n n) (w.alloc (.cells g e)):=by
 have c:¬(n*P.cellsOf e>2 ^ 24):=Nat.not_lt.2 (qu d (by decide));unfold Instr.buildSlice;simp only[aw,ay,aU hd,f9 hi];rw[ab c];by_cases f:n*P.cellsOf e=0
 ·rw[ae f];have b:Array.range 0=#[]:=rfl;rw[f]at a ⊢;rw[b,Gq]at a;simp only[aw,aB,ay,b,Gq,a,newRow,wP,xd]
 ·rw[ab f];simp only[aw,j,aB,ay,a,newRow,wP,xd]
def yx{t:TypeId}{n:Nat}{y:Array (Nat×Operand)}(J:o.op=.buildSlice t n y)(V:TR ι s.T a.tmps)(U:ι f=none)(h:effK P (opd s.T) s.H f (.buildSlice t n y) c=some z):
  ∃e,c e=some z/\gH P ι f o a w e:=by
 simp only[effK]at h;split at h
 ·rename_i e hd;split at h
  ·rename_i K;simp only[aC]at K;obtain⟨C,r⟩:=K;obtain⟨i',G⟩:=bX r;obtain⟨Y,F,h⟩:=av h;obtain⟨E,hp,h⟩:=av h;split at h
   ·rename_i b;have b:=bG b;obtain⟨l,W,h⟩:=av h;obtain⟨x,i,Z,X,O,S⟩:=vD ι F;obtain⟨R,Q⟩:=uV V _ _ hp;have I:=nq O;have B:(y.map λ(i,x)=>(i,a.eval x)).toList=y.toList.map λ(i,x)=>(i,a.eval x):=by simp
    have hpos':0<P.cellsOf e:=aH r;have A:=OS I (by omega) n;rw[b]at A;obtain⟨u,g,j⟩:=vP _ _ (y.toList.map λ(i,x)=>(i,a.eval x)) _ _ _ A R (by simp[VRs]) Q W;rw[<-B]at g;have p:=yy (w:=w) hd G (aH C) S g;split at h
    ·rename_i tr N;split at h
     case h_2=>cases h
     rename_i v;simp only[aC,jn]at v;obtain⟨M,L⟩:=v;obtain⟨m,D,h⟩:=av h;obtain⟨m1,m2⟩:=Ci D (by rw[L,M]);have k:u.size=n*tr.length:=by rw[M,<-L];simpa using j.length
     rw[m2]at j;refine⟨_,h,.mkR (d:=w.drawn) (q:=(Rf.of w.heap.size (n) (n))) (x:=.slice (some ⟨w.heap.size,0,none⟩) n n) (ob:=.cells u e) ?_ rfl rfl
      ⟨u,e,(0,0),rfl,m1,aQ _,by rw[k];simp,?_,.inr (su _)⟩ ?_⟩
     ·simp only[execOp,J,aw,p,ay,aB]
     ·rw[<-GP ι m _ j,m1];simp only[bI];exact iR (by rw[Jz,k];exact aQ _)
     ·simp only[VR];exact .inl ⟨_,dp _ _ _,rfl⟩
    ·refine⟨_,h,.mk (x:=.slice (some ⟨w.heap.size,0,none⟩) n n) (ob:=.cells u e) ?_ ⟨u,e,(0,0),rfl,VRs.mono (pQ U) _ _ j,su _⟩ ?_⟩
     ·simp only[execOp,J,aw,p,ay,aB]
     ·simp only[VR];exact⟨_,n,dp _ _ _,λm D=>by simpa using D,aQ _,rfl⟩
   ·cases h
  ·cases h
 ·cases h
def Nc{t:TypeId}{x:Operand}(d:o.op=.range t x)(g:TR ι s.T a.tmps)(h:effK P (opd s.T) s.H f (.range t x) c=some z):
  ∃e,c e=some z/\gH P ι f o a w e:=by
 simp only[effK]at h;split at h
 ·rename_i hd;split at h
  ·rename_i l hx;have b:=br g hx;simp only[VR]at b;refine⟨_,h,.mk (x:=.pointer (some ⟨w.heap.size,0,none⟩)) (ob:=.stringIter ⟨l.toArray⟩ 0) ?_ rfl (by simp only[VR];exact⟨_,dp _ _ _,rfl⟩)⟩;simp only[execOp,d,Instr.range,aw,ay,aU hd,b,aB,wP,xd]
  ·cases h
 ·cases h
end ops
end Go.Abs
