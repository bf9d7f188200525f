
/- The abstract effect of an operation is what the model's own operation does: the operations that make no memory; all of them together.
   Conditions: none; generic over the program. -/
import Derived.Test.YthemneooekobkaaGreatDoorAbsG
import Derived.Laws.BytesArg
import Derived.Laws.BytesString
import Derived.Lib.ConvBytes
import Derived.Laws.MakeOwn
import Derived.Deep.AppendSrc
import Derived.MapKept
set_option linter.unusedSimpArgs false
set_option linter.unusedVariables false
namespace Go.Abs
variable {P:Program}
section ops
variable {α:Type} {ι:Inj} {s:St} {a:Act} {w:World} {f:Nat} {o:Oper} {c:Eff->Option α} {z:α}
theorem xH {t:TypeId} {a:Array Field} {fd:Field} {i:Nat} {c:TypeInfo} (b:P.underlying t=some (.struct a)) (d:a[i]?=some fd) (hi:P.info? fd.type=some c)
  (hp:0<P.cellsOf fd.type) (r off:Nat) (w:World):(Instr.fieldAt t (.pointer (some ⟨r,off,none⟩)) i).run P w=.ok (.pointer (some ⟨r,off+fd.offset,none⟩)) w:=by
 simp only [Instr.fieldAt,az,be b,aB,d,Instr.sureAddr,aF,fieldPlace,gj hi,show ¬(P.cellsOf fd.type=0) by omega,aG,nl]
theorem AP {t:TypeId} {x:Operand} {i:Nat} (q:o.op=.fieldAddr t x i) (v:TR ι s.T a.tmps) (h:effK P (opd s.T) s.H f (.fieldAddr t x i) c=some z):
  ∃e,c e=some z/\gH P ι f o a w e:=by
 simp only [effK] at h;split at h
 ·rename_i b off hx;split at h
  ·rename_i y n;split at h
   ·rename_i fd l;split at h
    ·rename_i hp;obtain ⟨A,g⟩:=ci hp;have k:=bu v hx;simp only [VR] at k;obtain ⟨r,m,p⟩:=k;have d:=xH n (by simpa using l) g (aN hp) r.r off w;exact ⟨_,h,.val (x:=.pointer (some ⟨r.r,off+fd.offset,none⟩)) (by simp only [execOp,q,p,az,d,aB,aF]) (by simp only [VR,pT];exact ⟨r,m,rfl⟩)⟩
    ·cases h
   ·cases h
  ·cases h
 ·rename_i u b j off hx;split at h
  ·rename_i y n;split at h
   ·rename_i fd l;split at h
    ·rename_i hp;obtain ⟨A,g⟩:=ci hp;have k:=bu v hx;simp only [VR] at k;obtain ⟨r,m,p⟩:=k;have d:=xH n (by simpa using l) g (aN hp) r.r (r.o+(j*u+off)) w;exact ⟨_,h,.val (x:=.pointer (some ⟨r.r,r.o+(j*u+off)+fd.offset,none⟩)) (by simp only [execOp,q,p,az,d,aB,aF]) (by simp only [VR,pT];exact ⟨r,m,by rw [gq,gq]⟩)⟩
    ·cases h
   ·cases h
  ·cases h
 ·cases h
theorem KI {t:TypeId} {x:Operand} {i:Nat} (q:o.op=.field t x i) (E:TR ι s.T a.tmps) (h:effK P (opd s.T) s.H f (.field t x i) c=some z):
  ∃e,c e=some z/\gH P ι f o a w e:=by
 simp only [effK] at h;split at h
 ·rename_i l hx;have p:=bu E hx;simp only [VR] at p;obtain ⟨n,u,j⟩:=p;split at h
  ·rename_i B r;split at h
   ·rename_i fd A;have hf':B[i]?=some fd:=by simpa using A
    split at h
    ·rename_i b;split at h
     ·have C:∃d,P.underlying fd.type=some d:=by
       unfold ca at b;split at b
       ·exact ⟨_,by assumption⟩
       ·exact ⟨_,by assumption⟩
       ·cases b
      obtain ⟨d',g⟩:=C;obtain ⟨F,k⟩:=mZ g;refine ⟨_,h,.val (x:=.agg (n.extract fd.offset (fd.offset+P.cellsOf fd.type))) ?_ (qp (j.extract _ _))⟩;simp only [execOp,q,u,Instr.field,az,be r,aB,hf',asAgg,aF,part,kH g,b,aM,gj k]
     ·cases h
    ·rename_i b;split at h
     ·rename_i d' g;obtain ⟨v,D,h⟩:=ay h;obtain ⟨y,hy,m⟩:=j.get D;have hy':n[fd.offset]?=some y:=by simpa using hy
      refine ⟨_,h,.val (x:=y) ?_ m⟩;simp only [execOp,q,u,Instr.field,az,be r,aB,hf',asAgg,aF,part,kH g,b,bs,aG,hy']
     ·cases h
   ·cases h
  ·cases h
 ·cases h
theorem pf {t e:TypeId} {m:Nat} {b:TypeInfo} (d:P.underlying t=some (.array m e)) (hi:P.info? e=some b) (k:IntKind) {n:Int} (a:0<=n) (c:n<m) (r off:Nat) (w:World):
  (Instr.indexAt t (.pointer (some ⟨r,off,none⟩)) (.int k n)).run P w=.ok (.pointer (some ⟨r,off+n.toNat*P.cellsOf e,none⟩)) w:=by
 simp only [Instr.indexAt,asIntOf,az,aF,aB,be d,Instr.sureAddr,a,c,and_self,aM,gj hi,nl]
theorem lF {t e:TypeId} {m cp:Nat} {b:TypeInfo} (d:P.underlying t=some (.slice e)) (hi:P.info? e=some b) (k:IntKind) {n:Int} (a:0<=n) (c:n<m) (r off:Nat) (w:World):
  (Instr.indexAt t (.slice (some ⟨r,off,none⟩) m cp) (.int k n)).run P w=.ok (.pointer (some ⟨r,off+n.toNat*P.cellsOf e,none⟩)) w:=by
 simp only [Instr.indexAt,asIntOf,az,aF,aB,be d,a,c,and_self,aM,gj hi,nl]
theorem AO {t:TypeId} {x i:Operand} (G:o.op=.indexAddr t x i) (E:TR ι s.T a.tmps) (O:WR ι s.H s.nb w) (h:effK P (opd s.T) s.H f (.indexAddr t x i) c=some z):
  ∃e,c e=some z/\gH P ι f o a w e:=by
 simp only [effK] at h;split at h
 case h_2=>cases h
 rename_i k n hi;have u:=bu E hi;simp only [VR] at u;split at h
 ·rename_i m e D;split at h
  ·rename_i b off hx;have p:=bu E hx;simp only [VR] at p;obtain ⟨r,v,B⟩:=p;split at h
   ·rename_i hp;obtain ⟨I,g⟩:=ci hp;obtain ⟨j,C,h⟩:=ay h;obtain ⟨g0,A,rfl⟩:=oS C;have d:=pf D g k g0 A r.r off w;exact ⟨_,h,.val (x:=.pointer (some ⟨r.r,off+n.toNat*P.cellsOf e,none⟩)) (by simp only [execOp,G,B,u,az,d,aB,aF]) (by simp only [VR,pT,wN];exact ⟨r,v,rfl⟩)⟩
   ·cases h
  ·rename_i J b K off hx;have p:=bu E hx;simp only [VR] at p;obtain ⟨r,v,B⟩:=p;split at h
   ·rename_i hp;obtain ⟨I,g⟩:=ci hp;obtain ⟨j,C,h⟩:=ay h;obtain ⟨g0,A,rfl⟩:=oS C;have d:=pf D g k g0 A r.r (r.o+(K*J+off)) w;exact ⟨_,h,.val (x:=.pointer (some ⟨r.r,r.o+(K*J+off)+n.toNat*P.cellsOf e,none⟩)) (by simp only [execOp,G,B,u,az,d,aB,aF]) (by simp only [VR,pT,wN];exact ⟨r,v,by rw [gq,gq]⟩)⟩
   ·cases h
  ·cases h
 ·rename_i e D;split at h
  ·rename_i b off m cp hx;have p:=bu E hx;simp only [VR] at p;obtain ⟨r,cap,v,_,_,B⟩:=p;split at h
   ·rename_i hp;obtain ⟨I,g⟩:=ci hp;obtain ⟨j,C,h⟩:=ay h;obtain ⟨g0,A,rfl⟩:=oS C;have d:=lF (cp:=cap) D g k g0 A r.r off w;exact ⟨_,h,.val (x:=.pointer (some ⟨r.r,off+n.toNat*P.cellsOf e,none⟩)) (by simp only [execOp,G,B,u,az,d,aB,aF]) (by simp only [VR,pT,wN];exact ⟨r,v,rfl⟩)⟩
   ·cases h
  ·rename_i b hx;have p:=bu E hx;simp only [VR] at p;split at h
   case h_2=>cases h
   rename_i tr l L;split at h
   case h_2=>cases h
   rename_i hp;simp only [aD,jq] at hp;obtain ⟨M,hp⟩:=hp;obtain ⟨I,g⟩:=ci hp;obtain ⟨j,C,h⟩:=ay h;obtain ⟨g0,A,rfl⟩:=oS C;rcases jH O L with ⟨q,V,Y,fr,F,S,N,W,U,R,X⟩ | ⟨F,rfl⟩
   ·rcases p with ⟨Q,v,B⟩ | ⟨v,_⟩
    ·rw [v] at F;cases F;have g1':n<(q.n:Int):=by rw [<-N];exact A
     have d:=lF (cp:=q.k) D g k g0 g1' q.r q.o w;exact ⟨_,h,.val (x:=.pointer (some ⟨q.r,q.o+n.toNat*P.cellsOf e,none⟩)) (by simp only [execOp,G,B,u,az,d,aB,aF]) (by simp only [VR];exact ⟨q,v,by rw [cH]⟩)⟩
    ·rw [v] at F;cases F
   ·simp at A;omega
  ·rename_i J b Z m _ hx;have p:=bu E hx;simp only [VR] at p;split at h
   case h_2=>cases h
   rename_i hp;simp only [aD,jq] at hp;obtain ⟨rfl,hp⟩:=hp;obtain ⟨I,g⟩:=ci hp;obtain ⟨j,C,h⟩:=ay h;obtain ⟨g0,A,rfl⟩:=oS C;rcases p with ⟨q,cp,off,v,_,y,B⟩ | ⟨_,⟨rfl,_⟩,_⟩
   ·have d:=lF (cp:=cp) D g k g0 A q.r off w;have y:=y (by omega);exact ⟨_,h,.val (x:=.pointer (some ⟨q.r,off+n.toNat*P.cellsOf e,none⟩)) (by simp only [execOp,G,B,u,az,d,aB,aF]) (by simp only [VR,pT];exact ⟨q,v,by rw [y,ic,cH,gq]⟩)⟩
   ·omega
  ·cases h
 ·cases h
theorem jr {t e:TypeId} {m:Nat} {f:TypeInfo} (d:P.underlying t=some (.array m e)) (hi:P.info? e=some f) (k:IntKind) {n:Int} (b:0<=n) (c:n<m) (a:Array Value) (w:World):
  (Instr.index t (.agg a) (.int k n)).run P w=(part e a (n.toNat*P.cellsOf e)).run P w:=by
 simp only [Instr.index,asIntOf,az,aF,aB,be d,b,c,and_self,aM,gj hi]
theorem qY {t:TypeId} {d:TypeDesc} (c:P.underlying t=some d) (b:ca P t=false) {a:Array Value} {off:Nat} {x:Value} (hx:a[off]?=some x) (w:World):
  (part t a off).run P w=.ok x w:=by
 simp only [part,az,kH c,b,aB,bs,aG,hx,aF]
theorem vG {t:TypeId} {d:TypeDesc} (b:P.underlying t=some d) (c:ca P t=true) (a:Array Value) (off:Nat) (w:World):
  (part t a off).run P w=.ok (.agg (a.extract off (off+P.cellsOf t))) w:=by
 obtain ⟨i,hi⟩:=mZ b;simp only [part,az,kH b,c,aB,aM,gj hi,aF]
theorem vX {t:TypeId} (e:P.underlying t=some .string) {l:aa} {n:Int} {b:UInt8} (h:sx l n=some b) (k:IntKind) (w:World):
  (Instr.index t (.string ⟨l.toArray⟩) (.int k n)).run P w=.ok (.int .u8 b.toNat) w:=by
 unfold sx at h;split at h
 ·rename_i d;have f:(ByteArray.mk l.toArray)[n.toNat]?=some b:=by
   have a:n.toNat<l.length:=by
    rcases aI n.toNat l.length with c | c
    ·exact c
    ·rw [fV c] at h;cases h
   have hs:n.toNat<(ByteArray.mk l.toArray).size:=a;rw [getElem?_pos (ByteArray.mk l.toArray) n.toNat hs];rw [aW a] at h;simp only [aw] at h ⊢;exact h
  simp only [Instr.index,asIntOf,az,aF,aB,be e,d,aM,f]
 ·cases h
theorem Ol {t:TypeId} {x i:Operand} (F:o.op=.index t x i) (G:TR ι s.T a.tmps) (h:effK P (opd s.T) s.H f (.index t x i) c=some z):
  ∃e,c e=some z/\gH P ι f o a w e:=by
 simp only [effK] at h;split at h
 case h_2=>cases h
 rename_i k n hi;have d:=bu G hi;simp only [VR] at d;split at h
 ·rename_i m e D;split at h
  ·cases h
  rename_i hp;obtain ⟨O,r⟩:=ci hp;split at h
  ·rename_i k' m' l hx;have p:=bu G hx;simp only [VR] at p;obtain ⟨R,E⟩:=p;split at h
   ·rename_i k2 g;split at h
    ·rename_i q;have q:=bB q;obtain ⟨j,A,h⟩:=ay h;obtain ⟨g0,u,rfl⟩:=oS A;obtain ⟨v,p,h⟩:=ay h;refine ⟨_,h,.val (x:=.int k' v) ?_ (by simp [VR])⟩;simp only [execOp,F,E,d,az,jr D r k g0 u];rw [qY g (by simp [ca,g]) (x:=.int k' v) (by simp [q,p])];rfl
    ·cases h
   ·cases h
  ·rename_i l hx;have p:=bu G hx;simp only [VR] at p;obtain ⟨J,E,B⟩:=p;split at h
   ·rename_i N g;obtain ⟨j,A,h⟩:=ay h;obtain ⟨g0,u,rfl⟩:=oS A;refine ⟨_,h,.val (x:=.agg (J.extract (n.toNat*P.cellsOf e) (n.toNat*P.cellsOf e+P.cellsOf e))) ?_ (qp (B.extract _ _))⟩;simp only [execOp,F,E,d,az,jr D r k g0 u,vG g (by simp [ca,g]),aB,aF]
   ·rename_i m2 Q g;obtain ⟨j,A,h⟩:=ay h;obtain ⟨g0,u,rfl⟩:=oS A;refine ⟨_,h,.val (x:=.agg (J.extract (n.toNat*P.cellsOf e) (n.toNat*P.cellsOf e+P.cellsOf e))) ?_ (qp (B.extract _ _))⟩;simp only [execOp,F,E,d,az,jr D r k g0 u,vG g (by simp [ca,g]),aB,aF]
   ·rename_i g;split at h
    ·rename_i q;have q:=bB q;split at h
     ·rename_i S I;obtain ⟨j,A,h⟩:=ay h;obtain ⟨g0,u,rfl⟩:=oS A;obtain ⟨v,p,h⟩:=ay h;obtain ⟨y,hy,C⟩:=B.get (j:=n.toNat) (v:=.s v) (by rw [ua I];simp [p]);refine ⟨_,h,.val (x:=y) ?_ C⟩;simp only [execOp,F,E,d,az,jr D r k g0 u];rw [qY g (by simp [ca,g]) (x:=y) (by simpa [q] using hy)];rfl
     ·cases h
    ·cases h
   ·rename_i d' U L M g;split at h
    ·rename_i q;have q:=bB q;obtain ⟨j,A,h⟩:=ay h;obtain ⟨g0,u,rfl⟩:=oS A;obtain ⟨v,p,h⟩:=ay h;obtain ⟨y,hy,C⟩:=B.get p;refine ⟨_,h,.val (x:=y) ?_ C⟩;simp only [execOp,F,E,d,az,jr D r k g0 u];rw [qY g (by simp only [ca,g];cases d'<;>simp_all) (x:=y) (by simpa [q] using hy)];rfl
    ·cases h
   ·cases h
  ·cases h
 ·rename_i D;split at h
  ·rename_i l hx;have p:=bu G hx;simp only [VR] at p;obtain ⟨b,K,h⟩:=ay h;refine ⟨_,h,.val (x:=.int .u8 b.toNat) ?_ (by simp [VR])⟩;simp only [execOp,F,p,d,az,vX D K,aB,aF]
  ·cases h
 ·cases h
theorem A8 {t:TypeId} (a:P.underlying t=some .string) {l:aa} {lo hi:Option Value} {L H:Nat} {w:World}
  (b:(Instr.sliceBounds false l.length l.length lo hi none).run P w=.ok (L,H,l.length) w):
  (Instr.sliceAt t (.string ⟨l.toArray⟩) lo hi none).run P w=.ok (.string ⟨((l.take H).drop L).toArray⟩) w:=by
 rw [run_sliceAt_string w t _ _ _ _ a];have hs:(ByteArray.mk l.toArray).size=l.length:=rfl;simp only [Instr.slice,az,be a,aB,xm,bs,aG,hs,b,aF];congr 2;apply LI;rw [ByteArray.data_extract];apply m6;simp [List.extract,xB]
theorem Bd {t e:TypeId} {n:Nat} {b:TypeInfo} (d:P.underlying t=some (.array n e)) (hi:P.info? e=some b) {lo a:Option Value} {L H r off:Nat} {w:World}
  (c:(Instr.sliceBounds false n n lo a none).run P w=.ok (L,H,n) w):
  (Instr.sliceAt t (.pointer (some ⟨r,off,none⟩)) lo a none).run P w=.ok (.slice (some ⟨r,if n=L then off else off+L*P.cellsOf e,none⟩) (H - L) (n - L)) w:=by
 simp only [Instr.sliceAt,az,be d,aB,Instr.sureAddr,aF,c,gj hi,nl];split<;>rfl
theorem ou {t e:TypeId} {n cp:Nat} {b:TypeInfo} (d:P.underlying t=some (.slice e)) (hi:P.info? e=some b) {lo a:Option Value} {L H r off:Nat} {w:World}
  (c:(Instr.sliceBounds true n cp lo a none).run P w=.ok (L,H,cp) w):
  (Instr.sliceAt t (.slice (some ⟨r,off,none⟩) n cp) lo a none).run P w=.ok (.slice (some ⟨r,if cp=L then off else off+L*P.cellsOf e,none⟩) (H - L) (cp - L)) w:=by
 simp only [Instr.sliceAt,Instr.slice,az,be d,aB,c,gj hi,aF];split
 ·rfl
 ·simp only [fi,nl]
theorem gK (n l x y:Nat):cond (Nat.beq n l) x y=if n=l then x else y:=by
 by_cases h:n=l
 ·subst h;simp
 ·have:Nat.beq n l=false:=by
   cases a:Nat.beq n l
   ·rfl
   ·exact absurd (bB a) h
  simp [this,h]
theorem uP {t e:TypeId} {f:TypeInfo} {b:Option Addr} (c:P.underlying t=some (.slice e)) (hi:P.info? e=some f) {lo a:Option Value} {w:World}
  (d:(Instr.sliceBounds true 0 0 lo a none).run P w=.ok (0,0,0) w):
  (Instr.sliceAt t (.slice b 0 0) lo a none).run P w=.ok (.slice b 0 0) w:=by
 simp only [Instr.sliceAt,Instr.slice,az,be c,aB,d,gj hi,aF,aM]
theorem EQ {T:List (Nat×Option V)} (p:TR ι T a.tmps) {lo hi:Option Operand} {l h:Option Int} (x:rA (opd T) lo=some l)
  (u:rA (opd T) hi=some h) {len:Nat} {c:Nat->Nat->Option α} (f:(hiK len len h λh=>loK h l λl=>c h l)=some z):
  ∃H L,c H L=some z/\H<=len/\L<=H/\∀n,len<=n->∀w,(Instr.sliceBounds true len n (lo.map a.eval) (hi.map a.eval) none).run P w=.ok (L,H,n) w:=by
 have j:∀{H:Nat},loK H l (c H)=some z->∃L,c H L=some z/\L<=H/\
   ∀w,(match lo.map a.eval with | some v=>Instr.sliceBound v H .sliceB | none=>pure 0).run P w=.ok L w:=by
  intro H f;rcases pC p x with ⟨rfl,g⟩ | ⟨k,m,rfl,g⟩
  ·exact ⟨0,f,ie _,λw=>by rw [g];rfl⟩
  ·simp only [loK] at f;obtain ⟨L,i,o⟩:=ay f;obtain ⟨g0,q,rfl⟩:=lR i;exact ⟨_,o,by omega,λw=>by rw [g];exact run_sliceBound w k m H .sliceB g0 q⟩
 rcases pC p u with ⟨rfl,g⟩ | ⟨k,m,rfl,g⟩
 ·simp only [hiK] at f;obtain ⟨L,i,o,d⟩:=j f;refine ⟨len,L,i,bi _,o,λn r w=>?_⟩;have d:=d w;rw [g];simp only [Instr.sliceBounds,az,aF,aB,xm,bs,aG];cases b:lo.map a.eval with
  | none=>rw [b] at d;simp only [aF,yo,tH] at d;simp [d]
  | some v=>rw [b] at d;simp only [] at d;simp [d]
 ·simp only [hiK] at f;obtain ⟨H,i,o⟩:=ay f;obtain ⟨g0,q,rfl⟩:=lR i;obtain ⟨L,t,d,e⟩:=j o;refine ⟨_,L,t,by omega,d,λn r w=>?_⟩;have e:=e w;rw [g];have s:=run_sliceBound (P:=P) w k m n .sliceAcap g0 (by omega);simp only [Instr.sliceBounds,az,aF,aB,xm,bs,aG,aM,s];cases b:lo.map a.eval with
  | none=>rw [b] at e;simp only [aF,yo,tH] at e;simp [e]
  | some v=>rw [b] at e;simp only [] at e;simp [e]
theorem N2 {t:TypeId} {x:Operand} {lo hi:Option Operand} (G:o.op=.slice t x lo hi none) (I:TR ι s.T a.tmps) (hW:WR ι s.H s.nb w) (h:effK P (opd s.T) s.H f (.slice t x lo hi none) c=some z):
  ∃e,c e=some z/\gH P ι f o a w e:=by
 simp only [effK] at h;obtain ⟨v,hx,C⟩:=ay h;obtain ⟨l,K,W⟩:=ay C;obtain ⟨hh,y,d⟩:=ay W;clear h C W;have A:=bu I hx;clear hx;split at d
 ·rename_i D;cases v<;>simp only [reduceCtorEq] at d;rename_i sl;simp only [VR] at A;obtain ⟨H,L,g,_,_,_,i,_,B⟩:=xA (P:=P) I K y (isSlice:=false) d;refine ⟨_,g,.val (x:=.string ⟨((sl.take H).drop L).toArray⟩) ?_ (by simp [VR])⟩;simp only [execOp,G,A,az,i7];rw [A8 D (B w)];rfl
 ·rename_i n e D;split at d
  case h_2=>cases d
  rename_i hp;obtain ⟨ti,p⟩:=ci hp;cases v<;>simp only [reduceCtorEq] at d;rename_i b off;simp only [VR] at A;obtain ⟨r,i,u⟩:=A;obtain ⟨H,L,g,_,F,E,g4,_,B⟩:=xA (P:=P) I K y (isSlice:=false) d;have hHn:H<=n:=by
   cases hh with
   | none=>exact yE (F rfl)
   | some q=>exact E (by simp)
  refine ⟨_,g,.val (x:=.slice (some ⟨r.r,if n=L then off else off+L*P.cellsOf e,none⟩) (H - L) (n - L)) ?_ ?_⟩
  ·simp only [execOp,G,u,az,i7];rw [Bd D p (B w)];rfl
  ·simp only [VR];exact ⟨r,n - L,i,λm S=>by cases S;rfl,by omega,by rw [gK,pT,wN]⟩
 ·rename_i e D;split at d
  case h_2=>cases d
  rename_i hp;obtain ⟨ti,p⟩:=ci hp;cases v<;>try (simp only [reduceCtorEq] at d;done)
  ·rename_i b;simp only [VR] at A;simp only at d;split at d
   case h_2=>cases d
   rename_i tr m V;split at d
   case h_2=>cases d
   rename_i J;have J:=bB J;obtain ⟨H,L,g,F,E,B⟩:=EQ (P:=P) I K y d;rcases jH hW V with ⟨q,cs,e',fr,C,W,Y,q5,_,_,_⟩ | ⟨C,rfl⟩
   ·rcases A with ⟨q',i,u⟩ | ⟨i,_⟩
    ·rw [i] at C;cases C;refine ⟨_,g,.val (x:=.slice (some ⟨q.r,if q.k=L then q.o else q.o+L*P.cellsOf e,none⟩) (H - L) (q.k - L)) ?_ ?_⟩
     ·simp only [execOp,G,u,az,i7];rw [<-Y,ou D p (B q.k (by omega) w)];rfl
     ·simp only [VR];exact .inl ⟨q,_,_,i,⟨by omega,kB⟩,λR=>by rw [ab (by omega)],rfl⟩
    ·rw [i] at C;cases C
   ·rcases A with ⟨q,i,u⟩ | ⟨i,M,u⟩
    ·rw [i] at C;cases C
    ·simp only [cG,AX] at F E;subst F;simp only [AX] at E;subst E;refine ⟨_,g,.val (x:=.slice M 0 0) ?_ (by unfold VR;exact .inr ⟨i,⟨rfl,kB⟩,M,rfl⟩)⟩;simp only [execOp,G,u,az,i7];rw [uP D p (B 0 (bi _) w)];rfl
  ·rename_i zz b j n _;simp only [VR] at A;simp only at d;split at d
   case h_2=>cases d
   rename_i J;have J:=bB J;obtain ⟨H,L,g,F,E,B⟩:=EQ (P:=P) I K y d;rcases A with ⟨q,cp,off,i,⟨N,_⟩,O,u⟩ | ⟨i,⟨rfl,_⟩,M,u⟩
   ·refine ⟨_,g,.val (x:=.slice (some ⟨q.r,if cp=L then off else off+L*P.cellsOf e,none⟩) (H - L) (cp - L)) ?_ ?_⟩
    ·simp only [execOp,G,u,az,i7];rw [ou D p (B cp N w)];rfl
    ·simp only [VR];exact .inl ⟨q,_,_,i,⟨by omega,kB⟩,λR=>by rw [ab (by omega),O (by omega),pT,ic,J,gq],rfl⟩
   ·simp only [AX] at F;subst F;simp only [AX] at E;subst E;refine ⟨_,g,.val (x:=.slice M 0 0) ?_ (by unfold VR;exact .inr ⟨i,⟨rfl,kB⟩,M,rfl⟩)⟩;simp only [execOp,G,u,az,i7];rw [uP D p (B 0 (bi _) w)];rfl
  rename_i b off n cap;simp only [VR] at A;obtain ⟨r,cp,i,X,N,u⟩:=A;cases cap with
  | some m=>
   obtain rfl:=X m rfl;obtain ⟨H,L,g,_,F,E,g4,_,B⟩:=xA (P:=P) I K y (isSlice:=true) d;have hHn:H<=cp:=by
    cases hh with
    | none=>have:=F rfl;omega
    | some q=>exact E (by simp)
   refine ⟨_,g,.val (x:=.slice (some ⟨r.r,if cp=L then off else off+L*P.cellsOf e,none⟩) (H - L) (cp - L)) ?_ ?_⟩
   ·simp only [execOp,G,u,az,i7];rw [ou D p (B w)];rfl
   ·simp only [VR];exact ⟨r,cp - L,i,λm S=>by cases S;rfl,by omega,by rw [gK,pT,wN]⟩
  | none=>
   have U:l=none:=by
    cases l with
    | none=>rfl
    | some q=>
     cases hh with
     | none=>simp [hiK] at d
     | some q=>simp only [hiK] at d;obtain ⟨_,_,Y⟩:=ay d;cases Y
   subst U;have Q:lo.map a.eval=none:=by
    rcases pC I K with ⟨_,g⟩ | ⟨k,m,h0,_⟩
    ·exact g
    ·cases h0
   have key:∃H,c { val:=some (.sl b off H none) }=some z/\H<=n/\(Instr.sliceBounds true n cp (lo.map a.eval) (hi.map a.eval) none).run P w=.ok (0,H,cp) w:=by
    rcases pC I y with ⟨rfl,g⟩ | ⟨k,m,rfl,g⟩
    ·simp only [hiK] at d;exact ⟨n,d,bi _,by rw [g,Q];simp [Instr.sliceBounds]⟩
    ·simp only [hiK] at d;obtain ⟨H,h2,Z⟩:=ay d;obtain ⟨g0,g1,rfl⟩:=lR h2;refine ⟨_,Z,by omega,?_⟩;have V:=run_sliceBound (P:=P) w k m cp .sliceAcap g0 (by omega);rw [g,Q];simp [Instr.sliceBounds,V]
   obtain ⟨H,g,h2,Z⟩:=key;refine ⟨_,g,.val (x:=.slice (some ⟨r.r,if cp=0 then off else off+0*P.cellsOf e,none⟩) (H - 0) (cp - 0)) ?_ ?_⟩
   ·simp only [execOp,G,u,az,i7];rw [ou D p Z];rfl
   ·simp only [VR];exact ⟨r,cp,i,λm S=>(by cases S),by omega,by simp⟩
 ·cases d
theorem xa (a:List Int):a.foldl (λ(r:ByteArray) n=>r.push (UInt8.ofNat n.toNat)) ByteArray.empty=⟨(iN a).toArray⟩:=by
 rw [foldl_push_bytes];apply LI;simp [iN]
theorem za {w:World} {r off q m cp:Nat} {l:List Int} {e:TypeId} {fr:Nat×Nat} (h:w.heap[r]?=some (.cells (l.map (Value.int .u8)).toArray e fr)) (g:l.length=q) (f:off+m<=q):
  (Conv.bytesToString (.slice (some ⟨r,off,none⟩) m cp)).run P w=.ok (.string ⟨(iN ((l.drop off).take m)).toArray⟩) w:=by
 have a:(((l.drop off).take m).map (Value.int .u8)).length=m:=by simp;omega
 have hc:=yy (P:=P) w ⟨r,off,none⟩ (((l.drop off).take m).map (Value.int .u8)) (λj v b=>by
  have c:j<m:=by
   rcases aI j m with d | d
   ·exact d
   ·rw [fV (by omega)] at b;cases b
  rw [nl,bA h];rw [qG,qF c,mw] at b;simpa using b)
 rw [a] at hc;rw [run_bytesToString w _ m cp _ hc,xa]
theorem CE (w:World) (e:TypeId) (s:ByteArray):
  Lib.bytesWorld w e s=World.alloc { w with drawn:=w.drawn+1 } (.cells (Lib.bytesCells w e s) e ((Lib.bytesCells w e s).size,(Lib.bytesCells w e s).size+1)):=by
 have c:=Lib.bytesWorld_at_new w e s;have f:=Lib.bytesWorld_size w e s;have d:(Lib.bytesWorld w e s).heap=w.heap.push (.cells (Lib.bytesCells w e s) e ((Lib.bytesCells w e s).size,(Lib.bytesCells w e s).size+1)):=by
  apply U6;intro j;by_cases b:j=w.heap.size
  ·subst b;rw [c];simp
  ·by_cases a:j<w.heap.size
   ·rw [Lib.bytesWorld_at_old w e s j a,Array.getElem?_push,ab b]
   ·rw [vU (by omega),vU (by simp;omega)]
 show ({ (Lib.bytesWorld w e s) with heap:=(Lib.bytesWorld w e s).heap }:World)=_;rw [d];rfl
theorem sD:∀(l:List Int),l.flatMap (vals [.i .u8])=l.map (Value.int .u8)
 | []=>rfl
 | x::l=>by
  have:=sD l;simp only [om,fW,vals,Lf.val] at this ⊢;rw [this];rfl
theorem sT {w:World} {r cp:Nat} {l:List Int} {c:Array Value} {e:TypeId} {fr:Nat×Nat} {m:Nat} (h:w.heap[r]?=some (.cells c e fr)) (k:m<=c.size)
  {o:Nat} (p:(c.toList.drop o).take (l.length*([Lf.i .u8]:List Lf).length)=l.flatMap (vals [.i .u8])) {j n:Nat} (s:j+n<=l.length):
  (Conv.bytesToString (.slice (some ⟨r,o+j,none⟩) n cp)).run P w=.ok (.string ⟨(iN ((l.drop j).take n)).toArray⟩) w:=by
 have hl':(c.toList.drop o).take l.length=l.map (Value.int .u8):=by rw [<-sD];simpa using p
 have a:(((l.drop j).take n).map (Value.int .u8)).length=n:=by simp;omega
 have hc:=yy (P:=P) w ⟨r,o+j,none⟩ (((l.drop j).take n).map (Value.int .u8)) (λi v b=>by
  have f:i<n:=by
   rcases aI i n with g | g
   ·exact g
   ·rw [fV (by omega)] at b;cases b
  rw [nl,bA h];rw [qG,qF f,mw] at b;have d:=cD (λq:List Value=>q[j+i]?) hl';simp only [qF (show j+i<l.length by omega),qG,mw] at d;rw [b] at d;simpa [gq] using d)
 rw [a] at hc;rw [run_bytesToString w _ n cp _ hc,xa]
theorem sU {w:World} (c:Option Addr):(Conv.bytesToString (.slice c 0 0)).run P w=.ok (.string ⟨#[]⟩) w:=by
 cases c with
 | none=>rfl
 | some a=>
  have b:=yy (P:=P) w a ([].map (Value.int .u8)) (λj v d=>by simp at d);exact run_bytesToString (P:=P) w a 0 0 [] b
theorem GI {B d:TypeId} {x:Operand} (A:o.op=.convert B d x) (hT:TR ι s.T a.tmps) (S:WR ι s.H s.nb w) (h:effK P (opd s.T) s.H f (.convert B d x) c=some z):
  ∃e,c e=some z/\gH P ι f o a w e:=by
 simp only [effK] at h;obtain ⟨v,hx,q⟩:=ay h;clear h;have g:=bu hT hx;clear hx;split at q
 case h_2=>cases q
 rename_i C hs;split at q
 ·rename_i k p;cases v<;>simp only [reduceCtorEq] at q;rename_i k' n;simp only [VR] at g;refine ⟨_,q,.val (x:=.int k (k.wrap n)) ?_ (by simp [VR])⟩;simp only [execOp,A,g,az,convert,be hs,be p,aB];cases C<;>rfl
 ·rename_i p;cases v<;>simp only [reduceCtorEq] at q
  ·rename_i b;simp only [VR] at g;cases C<;>try (simp only [reduceCtorEq] at q;done)
   rename_i e;simp only at q;split at q
   case h_2=>cases q
   rename_i u;split at q
   case h_2=>cases q
   rename_i l F;refine ⟨_,q,.val (x:=.string ⟨(iN l).toArray⟩) ?_ (by simp [VR])⟩;rcases jH S F with ⟨q,cs,X,fr,i,M,V,q5,J,Q,_⟩ | ⟨i,rfl⟩
   ·rcases g with ⟨Z,t,y⟩ | ⟨t,_⟩
    ·rw [t] at i;cases i;simp only [execOp,A,y,az,run_convert_bytes_string w B d e _ _ _ hs u p];rw [<-V];have:=sT (P:=P) (cp:=q.k) M J Q (j:=0) (n:=l.length) (by omega);simp only [cO,mP,cH] at this;rw [this];rfl
    ·rw [t] at i;cases i
   ·rcases g with ⟨q,t,y⟩ | ⟨t,G,y⟩
    ·rw [t] at i;cases i
    ·simp only [execOp,A,y,az,run_convert_bytes_string w B d e G 0 0 hs u p,sU];rfl
  ·rename_i zz b j n _;simp only [VR] at g;cases C<;>try (simp only [reduceCtorEq] at q;done)
   rename_i e;simp only at q;split at q
   case h_2=>cases q
   rename_i u;split at q
   case h_2=>cases q
   rename_i l F;split at q
   case h_2=>cases q
   rename_i K;have K:=bB K;subst K;obtain ⟨hc,q⟩:=fb q;have D:=aN hc;refine ⟨_,q,.val (x:=.string ⟨(iN ((l.drop j).take n)).toArray⟩) ?_ (by simp [VR])⟩;rcases g with ⟨Y,cp,off,t,⟨N,_⟩,L,y⟩ | ⟨t,⟨rfl,_⟩,G,y⟩
   ·rcases jH S F with ⟨Z,cs,X,fr,i,M,V,q5,J,Q,_⟩ | ⟨i,rfl⟩
    ·rw [t] at i;cases i;simp only [execOp,A,y,az,run_convert_bytes_string w B d e _ _ _ hs u p];by_cases hn:0<n
     ·rw [L hn,rl];rw [sT (P:=P) (cp:=cp) M J Q D];rfl
     ·have O:n=0:=by omega
      subst O;have U:=yy (P:=P) w ⟨Y.r,off,none⟩ ([].map (Value.int .u8)) (λj v W=>by simp at W);have h0:=run_bytesToString (P:=P) w ⟨Y.r,off,none⟩ 0 cp [] U;rw [h0];simp [iN];rfl
    ·rw [t] at i;cases i
   ·simp only [execOp,A,y,az,run_convert_bytes_string w B d e G 0 0 hs u p,sU];simp [iN]
  ·rename_i k' n;simp only [VR] at g;cases C<;>simp only [reduceCtorEq] at q;refine ⟨_,q,.val (x:=.string (Utf8.encode n)) ?_ ?_⟩
   ·simp only [execOp,A,g,az,convert,be hs,be p,aB,Conv.intToString,aF]
   ·simp [VR]
  ·rename_i l;simp only [VR] at g;cases C<;>simp only [reduceCtorEq] at q;refine ⟨_,q,.val (x:=.string ⟨l.toArray⟩) ?_ (by simp [VR])⟩;simp only [execOp,A,g,az,convert,be hs,be p,aB,aF]
  ·simp only [VR] at g;cases C<;>try (simp only [reduceCtorEq] at q;done)
   rename_i e;simp only at q;split at q
   ·rename_i u;refine ⟨_,q,.val (x:=.string .empty) ?_ (by simp only [VR];rfl)⟩;simp only [execOp,A,g,az,run_convert_bytes_string w B d e none 0 0 hs u p];rfl
   ·cases q
  ·rename_i b off m cap;simp only [VR] at g;obtain ⟨r,cp,t,_,_,y⟩:=g;cases C<;>try (simp only [reduceCtorEq] at q;done)
   rename_i e;simp only at q;split at q
   ·rename_i u;split at q
    ·rename_i qn l F;obtain ⟨hc,q⟩:=fb q;have D:=aN hc;obtain ⟨r',X,fr,N,L,g3,_⟩:=wk S F;rw [t] at N;cases N;refine ⟨_,q,.val (x:=.string ⟨(iN ((l.drop off).take m)).toArray⟩) ?_ (by simp [VR])⟩;simp only [execOp,A,y,az,run_convert_bytes_string w B d e _ _ _ hs u p,za L g3 D,aB,aF]
    ·cases q
   ·cases q
 ·rename_i e p;split at q
  case h_2=>cases q
  rename_i u;cases v<;>try (simp only [reduceCtorEq] at q;done)
  rename_i l;simp only [VR] at g;cases C<;>simp only [reduceCtorEq] at q;refine ⟨_,q,.mkR (d:=w.drawn+1) (q:=(Rf.of w.heap.size (l.length) (grownCap w l.length 0 e))) (x:=.slice (some ⟨w.heap.size,0,none⟩) l.length (grownCap w l.length 0 e))
   (ob:=.cells (Lib.bytesCells w e ⟨l.toArray⟩) e ((Lib.bytesCells w e ⟨l.toArray⟩).size,(Lib.bytesCells w e ⟨l.toArray⟩).size+1)) ?_ rfl rfl ?_ ?_⟩
  ·simp only [execOp,A,g,az,Lib.run_convert_string_bytes w B d e ⟨l.toArray⟩ hs p u,aB,aF,CE];rfl
  ·have E:l.length<=grownCap w l.length 0 e:=by simp only [grownCap,Question.cut];omega
   have I:((ByteArray.mk l.toArray).data.map λb=>Value.int .u8 b.toNat).size=l.length:=by simp
   refine ⟨_,e,_,rfl,by simp,E,?_,?_,?_⟩
   ·simp only [Lib.bytesCells,Array.size_append,I,Array.size_replicate,aV,cG];have:(ByteArray.mk l.toArray).size=l.length:=rfl;rw [this];omega
   ·simp only [Lib.bytesCells,xo,Bi,aV,cG,cX,rl,cO];rw [vk (by simp),jB (by simp)];rw [sD,Array.toList_map,uW];rfl
   ·refine .inr λj W R=>?_;exact absurd R.1 (by simp only;omega)
  ·simp only [VR];exact .inl ⟨_,dJ _ _ _,rfl⟩
 ·cases q
theorem Qz {U:Call} (R:o.op=.call U) (hT:TR ι s.T a.tmps) (Z:WR ι s.H s.nb w) (h:effK P (opd s.T) s.H f (.call U) c=some z):
  ∃e,c e=some z/\gH P ι f o a w e:=by
 obtain ⟨Q,args,D⟩:=U;simp only [effK] at h;split at h
 case h_2=>cases h
 rename_i b;obtain ⟨l,hl,q⟩:=ay h;clear h;have g:=wV hT hl;have I:(args.map a.eval).toList=args.toList.map a.eval:=by simp
 rw [<-I] at g;generalize Y:args.map a.eval=A at g;have v:∃S,∀w,((do let d <-resolve a.eval ⟨.builtin b,args,D⟩ o.type;invoke d.target d.args):Sem Next).run P w=(builtin b D o.type S A).run P w:=by
  refine ⟨args.map fun | .const _=>true | _=>false,λw=>?_⟩;simp only [resolve,Y,az,aF,aB,invoke];rfl
 obtain ⟨S,v⟩:=v;have one:∀{X:Value},A.toList=[X]->A[0]?=some X:=by
  intro X p;have:A=#[X]:=by apply m6;simpa using p
  simp [this]
 have E:∀{t:TypeId} {r:List TypeId},D.toList=t::r->D[0]?=some t:=by
  intro t r u;rw [<-qM,u];rfl
 have j:∀{n:Int} {rd:List Nat},b=.len->(∀w,(Builtin.len_ D o.type A).run P w=.ok (goInt n) w)->c { val:=some (.i .i64 n),rd:=rd }=some z->∃e,c e=some z/\gH P ι f o a w e:=by
  intro n rd N F hc;subst N;refine ⟨_,hc,.val (x:=.int .i64 n) ?_ (by simp [VR])⟩;simp only [execOp,R];rw [v w];simp only [builtin,az,F,aB,aF,goInt]
 have C:∀{n:Int} {rd:List Nat},b=.cap->(∀w,(Builtin.cap_ D o.type A).run P w=.ok (goInt n) w)->c { val:=some (.i .i64 n),rd:=rd }=some z->∃e,c e=some z/\gH P ι f o a w e:=by
  intro n rd N F hc;subst N;refine ⟨_,hc,.val (x:=.int .i64 n) ?_ (by simp [VR])⟩;simp only [execOp,R];rw [v w];simp only [builtin,az,F,aB,aF,goInt]
 split at q
 ·split at q
  ·rename_i sl;simp only [VRs,VR] at g;obtain ⟨_,_,p,rfl,rfl⟩:=g;split at q
   ·rename_i t r u;split at q
    ·rename_i B;refine j rfl (λw=>?_) q;simp only [Builtin.len_,E u,one p,az,be B,aB,aF];rfl
    ·cases q
   ·cases q
  ·rename_i O oo n cp;simp only [VRs,VR] at g;obtain ⟨_,_,p,⟨r,cap,_,_,_,rfl⟩,rfl⟩:=g;split at q
   ·rename_i t r u;split at q
    ·rename_i B;refine j rfl (λw=>?_) q;simp only [Builtin.len_,E u,one p,az,be B,aB,aF]
    ·cases q
   ·cases q
  ·simp only [VRs,VR] at g;obtain ⟨_,_,p,rfl,rfl⟩:=g;split at q
   ·rename_i t r u;split at q
    ·rename_i B;refine j rfl (λw=>?_) q;simp only [Builtin.len_,E u,one p,az,be B,aB,aF];rfl
    ·cases q
   ·cases q
  ·rename_i O;simp only [VRs,VR] at g;obtain ⟨_,_,p,M,rfl⟩:=g;split at q
   ·rename_i t r u;split at q
    ·rename_i B;split at q
     ·rename_i tr l N;refine j (rd:=[O]) rfl (λw=>?_) q;rcases jH Z N with ⟨q,S,e',fr,J,q2,W,q5,q6,q7,_⟩ | ⟨J,rfl⟩
      ·rcases M with ⟨q',G,rfl⟩ | ⟨G,_⟩
       ·rw [G] at J;cases J;simp only [Builtin.len_,E u,one p,az,be B,aB,aF,W]
       ·rw [G] at J;cases J
      ·rcases M with ⟨q,G,_⟩ | ⟨G,V,rfl⟩
       ·rw [G] at J;cases J
       ·simp only [Builtin.len_,E u,one p,az,be B,aB,aF];rfl
     ·cases q
    ·cases q
   ·cases q
  ·rename_i zz O jj n _;simp only [VRs,VR] at g;obtain ⟨_,_,p,M,rfl⟩:=g;split at q
   ·rename_i t r u;split at q
    ·rename_i B;refine j rfl (λw=>?_) q;rcases M with ⟨q,cp,off,G,_,_,rfl⟩ | ⟨_,⟨rfl,_⟩,V,rfl⟩
     ·simp only [Builtin.len_,E u,one p,az,be B,aB,aF]
     ·simp only [Builtin.len_,E u,one p,az,be B,aB,aF]
    ·cases q
   ·cases q
  ·simp only [VRs] at g;obtain ⟨X,_,p,_,rfl⟩:=g;split at q
   ·rename_i t r u;split at q
    ·rename_i B;refine j rfl (λw=>?_) q;simp only [Builtin.len_,E u,one p,az,be B,aB,aF]
    ·cases q
   ·cases q
  ·cases q
 ·split at q
  ·rename_i zz O jj nn m;simp only [VRs,VR] at g;obtain ⟨_,_,p,M,rfl⟩:=g;split at q
   ·rename_i t r u;split at q
    ·rename_i B;refine C rfl (λw=>?_) q;rcases M with ⟨q,cp,off,G,⟨_,hc⟩,_,rfl⟩ | ⟨_,⟨_,hc⟩,V,rfl⟩
     ·have:=hc m rfl;subst this;simp only [Builtin.cap_,E u,one p,az,be B,aB,aF]
     ·have:=hc m rfl;subst this;simp only [Builtin.cap_,E u,one p,az,be B,aB,aF]
    ·cases q
   ·cases q
  ·rename_i O oo nn m;simp only [VRs,VR] at g;obtain ⟨_,_,p,⟨qq,cp,G,hc,_,rfl⟩,rfl⟩:=g;split at q
   ·rename_i t r u;split at q
    ·rename_i B;refine C rfl (λw=>?_) q;have:=hc m rfl;subst this;simp only [Builtin.cap_,E u,one p,az,be B,aB,aF]
    ·cases q
   ·cases q
  ·simp only [VRs,VR] at g;obtain ⟨_,_,p,rfl,rfl⟩:=g;split at q
   ·rename_i t r u;split at q
    ·rename_i B;refine C rfl (λw=>?_) q;simp only [Builtin.cap_,E u,one p,az,be B,aB,aF];rfl
    ·cases q
   ·cases q
  ·cases q
 ·split at q
  ·rename_i k x k' y;split at q
   ·rename_i L;have L:=lc L;subst L;simp only [VRs,VR] at g;obtain ⟨_,_,p,rfl,_,_,rfl,rfl,rfl⟩:=g;refine ⟨_,q,.val (x:=.int k (cond (decide (y<x)) y x)) ?_ (by simp [VR])⟩;simp only [execOp,R];rw [v w];simp only [builtin,az,Builtin.min_,p,List.foldlM,Builtin.min2,aF,aB];by_cases K:y<x<;>simp [K]
   ·cases q
  ·cases q
 ·split at q
  ·rename_i k x k' y;split at q
   ·rename_i L;have L:=lc L;subst L;simp only [VRs,VR] at g;obtain ⟨_,_,p,rfl,_,_,rfl,rfl,rfl⟩:=g;refine ⟨_,q,.val (x:=.int k (cond (decide (y>x)) y x)) ?_ (by simp [VR])⟩;simp only [execOp,R];rw [v w];simp only [builtin,az,Builtin.max_,p,List.foldlM,Builtin.max2,aF,aB];by_cases K:y>x<;>simp [K]
   ·cases q
  ·cases q
 ·cases q
theorem VP {op:UnOp} {x:V} {X:Value} {c:V->Option α} (h:unK op x c=some z) (hx:VR ι x X) (w:World):
  ∃v R,c v=some z/\VR ι v R/\(Op.unary op X).run P w=.ok R w:=by
 unfold unK at h;split at h
 ·simp only [VR] at hx;subst hx;exact ⟨_,_,h,rfl,rfl⟩
 ·simp only [VR] at hx;subst hx;exact ⟨_,_,h,rfl,rfl⟩
 ·cases h
theorem QP {x:Operand} {j:Bool} (p:o.op=.next x j) (E:TR ι s.T a.tmps) (B:WR ι s.H s.nb w) (h:effK P (opd s.T) s.H f (.next x j) c=some z):
  ∃e,c e=some z/\gH P ι f o a w e:=by
 simp only [effK] at h;split at h
 case h_2=>cases h
 rename_i b hx;have n:=bu E hx;simp only [VR] at n;obtain ⟨r,q,y⟩:=n;split at h
 case h_2=>cases h
 rename_i l pos D;obtain ⟨F,ob,m,v,t⟩:=(B.blk b _ D (by simp)).real (by simp);rw [q] at m;cases m;simp only [BR] at t;subst t;have k:(ByteArray.mk l.toArray).size=l.length:=rfl;have d:(getObj r.r).run P w=.ok (.stringIter ⟨l.toArray⟩ pos) w:=by simp [getObj,Sem.run,v]
 cases hc:Nat.blt pos l.length with
 | false=>
  rw [hc] at h;have A:¬pos<l.length:=λg=>by rw [show Nat.blt pos l.length=true from dm g] at hc;cases hc
  refine ⟨_,h,.val (x:=.tuple #[.bool false]) ?_ (by simp [VR,VRs])⟩;simp only [execOp,p,y,Instr.next,az,d,aB,k,A,aG,aF]
 | true=>
  rw [hc] at h;have g:pos<l.length:=aN hc;refine ⟨_,h,?_⟩;unfold gH;have i:∀ob,(Go.setObj r.r ob).run P w=.ok () (setObj w r.r ob):=by
   intro ob;simp [Go.setObj,Sem.run,v,setObj]
  refine ⟨r,q,λ_=>⟨.stringIter ⟨l.toArray⟩ (pos+(dec l pos).2),.value (.tuple #[.bool true,.int .i64 pos,.int .i32 (dec l pos).1]),?_,rfl,.value _ λu C=>by cases C;simp [VR,VRs]⟩⟩;simp only [execOp,p,y,Instr.next,az,d,aB,k,g,aM,i,aF,dec,goInt]
theorem Iq {t:List Lf} (x:den t):∀n,(List.replicate n x).flatMap (vals t)=(List.replicate n (vals t x)).flatten
 | 0=>rfl
 | n+1=>by simp [vc,om,Iq x n]
theorem Oi {l:List Value}:∀n:Nat,(List.replicate n l).flatten.length=n*l.length
 | 0=>by simp
 | n+1=>by rw [vc,List.flatten_cons,bv,Oi n,ic];omega
theorem KQ {l:List Value}:∀(n j:Nat),j<n*l.length->(List.replicate n l).flatten[j]?=l[j%l.length]?
 | 0,j,h=>by simp at h
 | n+1,j,h=>by
  simp only [vc,List.flatten_cons];by_cases a:j<l.length
  ·rw [nT a,ra a]
  ·rw [qA (by omega),KQ n _ (by rw [ic] at h;omega),<-Nat.mod_eq_sub_mod (by omega)]
theorem BZ {t:TypeId} {x y:Operand} (ho:o.op=.makeSlice t x y) (R:TR ι s.T a.tmps) (h:effK P (opd s.T) s.H f (.makeSlice t x y) c=some z):
  ∃e,c e=some z/\gH P ι f o a w e:=by
 simp only [effK] at h;obtain ⟨u,E,M⟩:=ay h;obtain ⟨v,D,b⟩:=ay M;clear h M;have E:=bu R E;have D:=bu R D;split at b
 case h_2=>cases b
 rename_i e V;split at b
 case h_2=>cases b
 rename_i k1 n k2 m _ _;simp only [VR] at E D;obtain ⟨zv,J,b⟩:=ay b;split at b
 case h_2=>cases b
 rename_i tr p _ l;split at b
 case h_2=>cases b
 rename_i L;simp only [aD,jq] at L;obtain ⟨N,e2,Q,I⟩:=L;have Q:=aN Q;have I:=aN I;obtain ⟨Y,F,b⟩:=ay b;obtain ⟨hc,b⟩:=fb b;simp only [aD,cr] at hc;obtain ⟨X,U,c2⟩:=hc;obtain ⟨zc,i,K,h2,W,_⟩:=wa ι J;rw [l] at K;cases K;have g:=ny W;rw [wu F] at g;have g:=(od ι tr Y _).1 g;have C:p.size=P.cellsOf e:=by unfold Program.cellsOf;rw [l];rfl
 have Z:m=(m.toNat:Int):=by omega
 have B:=run_make (P:=P) w t e p zc V l h2 k1 k2 n m X U (by
  rw [Z,<-G2];have:p.bytes*m.toNat<=1048576*67108864:=yc I (by omega);omega) (by omega)
 refine ⟨_,b,.mkR (d:=w.drawn) (q:=(Rf.of w.heap.size (n.toNat) (m.toNat))) (x:=.slice (some ⟨w.heap.size,0,none⟩) n.toNat m.toNat) (ob:=.cells (madeCells zc.cells (m.toNat*p.size)) e) ?_ rfl rfl ?_ ?_⟩
 ·simp only [execOp,ho,E,D,az,B,aB,aF]
 ·have G:(madeCells zc.cells (m.toNat*p.size)).size=m.toNat*p.size:=size_madeCells _ _;refine ⟨_,e,_,rfl,by simp,by simp only;omega,by rw [G,C,N];simp,?_,.inr (tf _)⟩;simp only [cO];rw [Iq,List.length_replicate,<-g];apply zZ;intro j;have k:zc.cells.toList.length=tr.length:=by rw [g,gO]
  have A:zc.cells.size=tr.length:=by simpa using k
  have S:n.toNat*tr.length<=m.toNat*tr.length:=oH _ (by omega);by_cases O:j<n.toNat*tr.length
  ·rw [qF O,KQ n.toNat j (by rw [k];exact O),k];have r:j%tr.length<zc.cells.size:=by rw [A];exact rB _ (by omega)
   simp only [madeCells,C,<-N,A];rw [qM,Array.getElem?_map,Array.getElem?_range];simp [show j<m.toNat*tr.length by omega,r]
  ·rw [fV (by rw [cP];omega),fV (by rw [Oi,k];omega)]
 ·simp only [VR];exact .inl ⟨_,dJ _ _ _,rfl⟩
theorem V0 {op:BinOp} {t:TypeId} {x y:Operand} {u v:V} {r:Bool} {X Y:Value} (h:niK P op t x y u v=some r) (hx:VR ι u X) (hy:VR ι v Y) (w:World):
  (eqGuard op t x y X Y).run P w=.ok () w/\(binOp op t X Y).run P w=.ok (.bool r) w:=by
 unfold niK at h;split at h
 case h_2=>cases h
 simp only [VR] at hx hy;subst hx hy;split at h
 case h_2=>cases h
 rename_i hc;split at h
 case h_2=>cases h
 rename_i f e;have c:∀o:BinOp,o=.eql\/o=.neq->(eqGuard o t x y .nilIface .nilIface).run P w=.ok () w:=by
  intro o d;have a:(∃v,x=.const v)\/∃v,y=.const v:=by
   rw [gX] at hc;refine hc.imp (λh=>?_) (λh=>?_)
   ·cases x<;>simp_all [Hq]
   ·cases y<;>simp_all [Hq]
  rcases a with ⟨v,rfl⟩ | ⟨v,rfl⟩<;>rcases d with rfl | rfl<;>simp [eqGuard]
 have b:(Op.equal t .nilIface .nilIface).run P w=.ok true w:=by rw [eP,Op.equalIn];simp [be e]
 split at h
 ·simp only [aw] at h;subst h;exact ⟨c _ (.inl rfl),by simp [binOp,b]⟩
 ·simp only [aw] at h;subst h;exact ⟨c _ (.inr rfl),by simp [binOp,b]⟩
 ·cases h
theorem lj {t e:TypeId} {i:TypeInfo} (g:P.underlying t=some (.slice e)) (hi:P.info? e=some i) {n cp:Nat} {a:Option Addr} {k k':IntKind} {h m:Int} {H M:Nat} (c:bx n m=some M) (j:bx M h=some H) (p:n<=cp) (w:World):
  (Instr.sliceAt t (.slice a n cp) none (some (.int k h)) (some (.int k' m))).run P w=.ok (.slice a H M) w:=by
 obtain ⟨m0,m1,rfl⟩:=lR c;obtain ⟨b,f,rfl⟩:=lR j;have l:=run_sliceBound (P:=P) w k' m cp .slice3Acap m0 (by omega);have d:=run_sliceBound (P:=P) w k h m.toNat .slice3B b f;simp only [Instr.sliceAt,Instr.slice,az,be g,aB,Instr.sliceBounds,aM,l,d,aF,gj hi,rN,BH];split
 ·rfl
 ·cases a with
  | none=>rfl
  | some q=>obtain ⟨r,o,x⟩:=q;simp [Addr.add]
theorem JO {t:TypeId} {x mx:Operand} {lo hi:Option Operand} (J:o.op=.slice t x lo hi (some mx)) (O:TR ι s.T a.tmps) (Y:WR ι s.H s.nb w) (h:effK P (opd s.T) s.H f (.slice t x lo hi (some mx)) c=some z):
  ∃e,c e=some z/\gH P ι f o a w e:=by
 simp only [effK,uV] at h;split at h
 case h_2=>cases h
 rename_i hh;obtain ⟨v,hx,d⟩:=ay h;clear h;have B:=bu O hx;clear hx;split at d
 case h_2=>cases d
 rename_i k1 X k2 m1 K N;have D:=bu O K;have E:=bu O N;simp only [VR] at D E;split at d
 case h_2=>cases d
 rename_i e I;split at d
 case h_2=>cases d
 rename_i hp;obtain ⟨ti,m⟩:=ci hp;split at d
 ·rename_i b;split at d
  case h_2=>cases d
  rename_i tr l W;split at d
  case h_2=>cases d
  obtain ⟨M,u,G⟩:=ay d;obtain ⟨H,p,C⟩:=ay G;obtain ⟨m0,m2,Q⟩:=lR u;obtain ⟨S,V,R⟩:=lR p;simp only [VR] at B;rcases jH Y W with ⟨q,cs,e',fr,A,r2,r4,r5,_,_,_⟩ | ⟨A,rfl⟩
  ·rcases B with ⟨q',g,y⟩ | ⟨g,_⟩
   ·rw [g] at A;cases A;refine ⟨_,C,.val (x:=.slice (some ⟨q.r,q.o,none⟩) H M) ?_ ?_⟩
    ·simp only [execOp,J,y,D,E,az,i7,fi];rw [<-r4,lj I m u p (by omega) w];rfl
    ·simp only [VR];exact .inl ⟨q,_,_,g,⟨by omega,si⟩,λ_=>by omega,rfl⟩
   ·rw [g] at A;cases A
  ·rcases B with ⟨q,g,y⟩ | ⟨g,F,y⟩
   ·rw [g] at A;cases A
   ·simp only [cG] at m2;have k:M=0:=by omega
    have i:H=0:=by omega
    subst k i;refine ⟨_,C,.val (x:=.slice F 0 0) ?_ (by unfold VR;exact .inr ⟨g,⟨rfl,si⟩,F,rfl⟩)⟩;simp only [execOp,J,y,D,E,az,i7,fi];rw [lj I m (n:=0) (M:=0) u p (by omega) w];rfl
 ·rename_i zz b j n _;obtain ⟨M,u,G⟩:=ay d;obtain ⟨H,p,C⟩:=ay G;obtain ⟨m0,m2,Q⟩:=lR u;obtain ⟨S,V,R⟩:=lR p;simp only [VR] at B;rcases B with ⟨q,cp,off,g,⟨L,_⟩,Z,y⟩ | ⟨g,⟨L,_⟩,F,y⟩
  ·refine ⟨_,C,.val (x:=.slice (some ⟨q.r,off,none⟩) H M) ?_ ?_⟩
   ·simp only [execOp,J,y,D,E,az,i7,fi];rw [lj I m u p L w];rfl
   ·simp only [VR];exact .inl ⟨q,_,_,g,⟨by omega,si⟩,λU=>Z (by omega),rfl⟩
  ·subst L;have k:M=0:=by omega
   have i:H=0:=by omega
   subst k i;refine ⟨_,C,.val (x:=.slice F 0 0) ?_ (by unfold VR;exact .inr ⟨g,⟨rfl,si⟩,F,rfl⟩)⟩;simp only [execOp,J,y,D,E,az,i7,fi];rw [lj I m (n:=0) (M:=0) u p (by omega) w];rfl
 ·obtain ⟨M,u,G⟩:=ay d;obtain ⟨H,p,C⟩:=ay G;obtain ⟨m0,m2,Q⟩:=lR u;obtain ⟨S,V,R⟩:=lR p;simp only [VR] at B;have k:M=0:=by omega
  have i:H=0:=by omega
  subst k i;refine ⟨_,C,.val (x:=.slice none 0 0) ?_ (by simp only [VR])⟩;simp only [execOp,J,B,D,E,az,i7,fi];rw [lj I m (n:=0) (M:=0) u p (by omega) w];rfl
 ·cases d
theorem VM {op:BinOp} {t:TypeId} {u v:V} {r:Bool} {n:Nat} {rd:List Nat} {X Y:Value} {H:List (Nat×Blk)} {nb:Nat} (h:slN P op t u v=some r) (a:slL H u=some (n,rd)) (x:0<n) (y:WR ι H nb w) (hx:VR ι u X) (hy:VR ι v Y) (p q:Operand):
  (eqGuard op t p q X Y).run P w=.ok () w/\(binOp op t X Y).run P w=.ok (.bool r) w:=by
 unfold slN at h;split at h
 case h_2=>cases h
 simp only [VR] at hy;subst hy;have b:∀(A:Addr) (n c:Nat),X=.slice (some A) n c->P.underlying t=(P.underlying t)->∀e,P.underlying t=some (.slice e)->
   ((eqGuard .eql t p q X (.slice none 0 0)).run P w=.ok () w/\(binOp .eql t X (.slice none 0 0)).run P w=.ok (.bool false) w)/\
   ((eqGuard .neq t p q X (.slice none 0 0)).run P w=.ok () w/\(binOp .neq t X (.slice none 0 0)).run P w=.ok (.bool (!false)) w):=by
  rintro A n c rfl _ e g;exact pO p q (.inl (by simp)) (.inl (by simp)) (by simp) (by rw [eP,Op.equalIn];simp [be g])
 have fin:∀(A:Addr) (n c:Nat),X=.slice (some A) n c->slT P op t=some r->(eqGuard op t p q X (.slice none 0 0)).run P w=.ok () w/\(binOp op t X (.slice none 0 0)).run P w=.ok (.bool r) w:=by
  intro A n c s h;unfold slT at h;split at h
  case h_2=>cases h
  rename_i e g;obtain ⟨m1,m2⟩:=b A n c s rfl e g;split at h
  ·simp only [aw] at h;subst h;exact m1
  ·simp only [aw] at h;subst h;exact m2
  ·cases h
 split at h
 ·rename_i c;simp only [slL] at a;split at a
  case h_2=>cases a
  rename_i tr l k;simp only [aw,bG] at a;obtain ⟨rfl,_⟩:=a;simp only [VR] at hx;rcases jH y k with ⟨C,D,G,fr,f,K,r4,_⟩ | ⟨f,rfl⟩
  ·rcases hx with ⟨o,d,i⟩ | ⟨d,_⟩
   ·exact fin _ _ _ i h
   ·rw [d] at f;cases f
  ·simp at x
 ·rename_i z c j m E;simp only [slL,aw,bG] at a;obtain ⟨rfl,_⟩:=a;simp only [VR] at hx;rcases hx with ⟨o,J,F,d,i,I,B⟩ | ⟨d,⟨i,_⟩,_⟩
  ·exact fin _ _ _ B h
  ·omega
 ·cases h
theorem Gl {t:TypeId} {x:Option Operand} (b:o.op=.makeMap t x) (h:effK P (opd s.T) s.H f (.makeMap t x) c=some z):∃e,c e=some z/\gH P ι f o a w e:=by
 simp only [effK] at h;split at h
 case h_2=>cases h
 split at h
 case h_2=>cases h
 refine ⟨_,h,.mk (x:=.map (some w.heap.size)) (ob:=.map #[] 0) ?_ ⟨#[],0,rfl,rfl⟩ (by simp only [VR];exact ⟨_,dJ _ _ _,rfl⟩)⟩;simp only [execOp,b,i7,az];rfl
theorem Su {H:List (Nat×Blk)} {nb b:Nat} {w:World} (d:WR ι H nb w) {k:IntKind} {l:List (Int×Nat)} (i:look H b=some (.mp k l)):
  ∃q c a,ι b=some (some q)/\w.heap[q.r]?=some (.map c a)/\c.toList.map (λe=>(e.key,e.val))=l.map λp=>(Value.int k p.1,fnV p.2 #[]):=by
 obtain ⟨q,o,g,f,c,a,rfl,h⟩:=(d.blk b _ i (by simp)).real (by simp);exact ⟨q,c,a,g,f,h⟩
theorem NA {α:Type} {k:IntKind} {n:Int} {c:Nat->Option α} {z:α}:∀(b:List MapEntry) (l:List (Int×Nat)) (i:Nat),b.map (λe=>(e.key,e.val))=l.map (λp=>(Value.int k p.1,fnV p.2 #[]))->mapK l n c=some z->
  ∃g j,c g=some z/\Instr.findNow (.int k) (.int k n) b i=some (some (j,fnV g #[]))
 | [],[],_,_,h=>by cases h
 | [],_::_,_,a,_=>by simp at a
 | _::_,[],_,a,_=>by simp at a
 | e::b,(m,g)::l,i,a,h=>by
  simp only [fW,D1,bG] at a;obtain ⟨⟨f,r⟩,t⟩:=a;simp only [mapK] at h;cases d:(n==m) with
  | true=>
   rw [d] at h;exact ⟨g,i,h,by simp only [Instr.findNow,f,Instr.sameNow,aM,d,r]⟩
  | false=>
   rw [d] at h;obtain ⟨q,j,s,o⟩:=NA b l (i+1) t h;exact ⟨q,j,s,by simp only [Instr.findNow,f,Instr.sameNow,aM,d];exact o⟩
theorem Jw {t:TypeId} {m x:Operand} {ok:Bool} (O:o.op=.lookup t m x ok) (y:TR ι s.T a.tmps) (G:WR ι s.H s.nb w) (h:effK P (opd s.T) s.H f (.lookup t m x ok) c=some z):
  ∃e,c e=some z/\gH P ι f o a w e:=by
 simp only [effK] at h;split at h
 case h_2=>cases h
 rename_i b M;split at h
 case h_2=>cases h
 rename_i k n hx;split at h
 case h_2=>cases h
 rename_i kt R D;split at h
 case h_2=>cases h
 rename_i k2 v;split at h
 case h_2=>cases h
 rename_i k1 l B;split at h
 case h_2=>cases h
 rename_i d;simp only [aD] at d;have F:=lc d.1;have I:=lc d.2;subst F I;have p:=bu y M;have r:=bu y hx;simp only [VR] at p r;obtain ⟨q,A,N⟩:=p;obtain ⟨Q,K,i,u,C,J⟩:=Su G B;rw [A] at u;cases u;obtain ⟨g,j,E,L⟩:=NA K.toList l 0 J h;refine ⟨_,E,.val (x:=fnV g #[]) ?_ (by simp only [VR];exact ⟨#[],rfl,by simp [VRs]⟩)⟩;simp only [execOp,O,N,r,az,Instr.lookup,be D,aB,MapKept.run_getObj_map C,aF,
  MapKept.run_checkKey (k:=.int k2 n) v (by simp [MapKept.IsKey]),MapKept.run_findKey v L]
 rfl
theorem J1 {t:TypeId} {m x y:Operand} (ho:o.op=.insert t m x y) (I:TR ι s.T a.tmps) (Z:WR ι s.H s.nb w) (h:effK P (opd s.T) s.H f (.insert t m x y) c=some z):
  ∃e,c e=some z/\gH P ι f o a w e:=by
 simp only [effK] at h;split at h
 case h_2=>cases h
 rename_i b hm;split at h
 case h_2=>cases h
 rename_i k n g hx hy;split at h
 case h_2=>cases h
 rename_i kt et W;split at h
 case h_2=>cases h
 rename_i k2 R;split at h
 case h_2=>cases h
 rename_i k1 l U;split at h
 case h_2=>cases h
 rename_i A;simp only [aD] at A;obtain ⟨E,G,B⟩:=A;have X:=lc E;have e2:=lc G;subst X e2;have J:=bu I hm;have M:=bu I hx;have O:=bu I hy;simp only [VR] at J M O;obtain ⟨q,K,h2⟩:=J;obtain ⟨V,h8,S⟩:=O;simp only [VRs] at S;have F:V=#[]:=by
  apply m6;simpa using S
 subst F;obtain ⟨q',D,d,N,L,Q⟩:=Su Z U;rw [K] at N;cases N;have C:∀e∈D.toList,∃p∈l,e.key=.int k2 p.1:=by
  intro e u;have:(e.key,e.val)∈l.map λp=>(Value.int k2 p.1,fnV p.2 #[]):=by rw [<-Q];exact ek.2 ⟨e,u,rfl⟩
  obtain ⟨p,hp,i⟩:=ek.1 this;simp only [bG] at i;exact ⟨p,hp,i.1.symm⟩
 have r:MapKept.IsKey (.int k2) (.int k2 n):=by simp [MapKept.IsKey]
 have v:Instr.findNow (.int k2) (.int k2 n) D.toList 0=some none:=by
  rcases MapKept.findNow_spec r D.toList 0 (λe u=>by obtain ⟨p,_,hp⟩:=C e u;rw [hp];simp [MapKept.IsKey]) with ⟨h,_⟩ | ⟨j,e,_,Y,u⟩
  ·exact h
  ·exfalso;obtain ⟨p,hp,i⟩:=C e (eW Y);rw [i] at u;have:=(bW.1 B) p hp;simp only [Value.int.injEq,ku] at u;simp [u] at this
 refine ⟨_,h,?_⟩;unfold gH;refine ⟨q,K,λ_=>⟨.map (D.push { key:=.int k2 n,val:=fnV g #[],born:=d }) (d+1),.skip,?_,⟨_,_,rfl,?_⟩,.skip rfl⟩⟩
 ·simp only [execOp,ho,h2,M,h8,az,Instr.mapUpdate,be W,aB,MapKept.run_getObj_map L,MapKept.run_checkKey (k:=.int k2 n) R r,MapKept.run_findKey R v,MapKept.run_setObj_map _ L,aF];rfl
 ·rw [Array.toList_push,GQ,GQ,Q];rfl
theorem LV (k:TR ι s.T a.tmps) (C:WR ι s.H s.nb w) (Z:ι f=none) (h:effK P (opd s.T) s.H f o.op c=some z):∃e,c e=some z/\gH P ι f o a w e:=by
 cases j:o.op with
 | move x=>
  rw [j] at h;simp only [effK] at h;obtain ⟨v,p,h⟩:=ay h;exact ⟨_,h,.val (by simp only [execOp,j,aF]) (bu k p)⟩
 | assign x=>
  rw [j] at h;simp only [effK] at h;obtain ⟨v,p,h⟩:=ay h;exact ⟨_,h,.val (by simp only [execOp,j,aF]) (bu k p)⟩
 | pick q x y=>
  rw [j] at h;simp only [effK] at h;split at h
  ·rename_i t M;have p:=bu k M;simp only [VR] at p;cases t
   ·simp only [af] at h;obtain ⟨v,A,h⟩:=ay h;exact ⟨_,h,.val (x:=a.eval y) (by simp [execOp,j,p,asBool]) (bu k A)⟩
   ·simp only [ah] at h;obtain ⟨v,A,h⟩:=ay h;exact ⟨_,h,.val (x:=a.eval x) (by simp [execOp,j,p,asBool]) (bu k A)⟩
  ·cases h
 | alloc t=>rw [j] at h;exact N6 j h
 | makeMap t x=>rw [j] at h;exact Gl j h
 | insert t m x y=>rw [j] at h;exact J1 j k C h
 | lookup t m x ok=>rw [j] at h;exact Jw j k C h
 | box t x=>rw [j] at h;exact TT j k Z h
 | build t ps=>rw [j] at h;exact MI j k h
 | buildSlice t n ps=>rw [j] at h;exact zh j k Z h
 | load t x=>rw [j] at h;exact O9 j k C h
 | makeSlice t x y=>rw [j] at h;exact BZ j k h
 | store t x y=>rw [j] at h;exact N5 j k C h
 | nilCheck x=>
  rw [j] at h;simp only [effK] at h;split at h
  ·rename_i b off hx;have p:=bu k hx;have A:=p;simp only [VR] at p;obtain ⟨r,h5,B⟩:=p;exact ⟨_,h,.val (x:=a.eval x) (by simp [execOp,j,B]) A⟩
  ·rename_i zz b jj off hx;have p:=bu k hx;have A:=p;simp only [VR] at p;obtain ⟨r,h5,B⟩:=p;exact ⟨_,h,.val (x:=a.eval x) (by simp [execOp,j,B]) A⟩
  ·rename_i g l hx;have p:=bu k hx;have A:=p;simp only [VR] at p;obtain ⟨U,B,_⟩:=p;obtain ⟨g',b',c',h7⟩:=Ac g U;exact ⟨_,h,.val (x:=a.eval x) (by simp [execOp,j,B,h7]) A⟩
  ·rename_i b off n m hx;have p:=bu k hx;have A:=p;simp only [VR] at p;obtain ⟨r,cp,_,_,_,B⟩:=p;exact ⟨_,h,.val (x:=a.eval x) (by simp [execOp,j,B]) A⟩
  ·rename_i t v hx;have p:=bu k hx;have A:=p;simp only [VR] at p;obtain ⟨y,B,_⟩:=p;exact ⟨_,h,.val (x:=a.eval x) (by simp [execOp,j,B]) A⟩
  ·cases h
 | binOp op t x y yt=>
  rw [j] at h;simp only [effK] at h;obtain ⟨u,J,h⟩:=ay h;obtain ⟨v,p,h⟩:=ay h;split at h
  ·rename_i r V;have hx:=bu k J;have hy:=bu k p;obtain ⟨G,L⟩:=V0 V hx hy w;exact ⟨_,h,.val (x:=.bool r) (by simp only [execOp,j,az,G,L,aB,aF]) (by simp [VR])⟩
  split at h
  ·rename_i r V;split at h
   case h_2=>cases h
   rename_i m rd E;obtain ⟨hm,h⟩:=fb h;obtain ⟨G,L⟩:=VM V E (aN hm) C (bu k J) (bu k p) x y;exact ⟨_,h,.val (x:=.bool r) (by simp only [execOp,j,az,G,L,aB,aF]) (by simp [VR])⟩
  obtain ⟨R,X,Q,Y,G,L⟩:=SH h (bu k J) (bu k p) x y w;exact ⟨_,Q,.val (x:=X) (by simp only [execOp,j,az,G,L,aB,aF]) Y⟩
 | unOp op t x=>
  rw [j] at h;simp only [effK] at h;obtain ⟨u,J,h⟩:=ay h;obtain ⟨R,X,Q,Y,G⟩:=VP (P:=P) h (bu k J) w;exact ⟨_,Q,.val (x:=X) (by simp only [execOp,j,az,G,aB,aF]) Y⟩
 | convert sr d x=>rw [j] at h;exact GI j k C h
 | next x str=>rw [j] at h;exact QP j k C h
 | makeInterface t x=>
  rw [j] at h;simp only [effK] at h;obtain ⟨u,J,h⟩:=ay h;have p:=bu k J;split at h
  ·cases h
  ·rename_i d O N;refine ⟨_,h,.val (x:=.iface t (a.eval x)) ?_ (by simp only [VR];exact ⟨_,rfl,p⟩)⟩;simp only [execOp,j,Instr.makeInterface,az,be N,aB];cases d<;>first | rfl | exact absurd rfl (O _)
  ·cases h
 | makeFunc fn first cap=>
  rw [j] at h;simp only [effK] at h;split at h
  ·rename_i g F;split at h
   case h_2=>cases h
   rename_i hb;obtain ⟨l,E,h⟩:=ay h;have I:=wV k E;have D:first=#[]:=by apply m6;simpa using F
   refine ⟨_,h,.val (x:=.func (.func g) #[] (cap.map a.eval)) ?_ (by simp only [VR];exact ⟨_,(Gg hb _).symm,by simpa using I⟩)⟩;simp only [execOp,j,Instr.makeFunc,D,IM,az,aF,aB]
  ·rename_i g _ _ F;split at h
   ·rename_i K;obtain ⟨l,E,h⟩:=ay h;have I:=wV k E;have hcap':cap=#[]:=by apply m6;simpa using K
    refine ⟨_,h,.val (x:=.func (.func g) (first.map a.eval) #[]) ?_ (by simp only [VR];exact ⟨_,(Qc g _).symm,by simpa using I⟩)⟩;simp only [execOp,j,Instr.makeFunc,hcap',IM,az,aF,aB]
   ·cases h
  ·cases h
 | slice t x lo hi mx=>
  rw [j] at h;cases mx with
  | none=>exact N2 j k C h
  | some m=>exact JO j k C h
 | fieldAddr t x i=>rw [j] at h;exact AP j k h
 | field t x i=>rw [j] at h;exact KI j k h
 | indexAddr t x i=>rw [j] at h;exact AO j k C h
 | index t x i=>rw [j] at h;exact Ol j k h
 | range t x=>rw [j] at h;exact NW j k h
 | extract x i=>
  rw [j] at h;simp only [effK] at h;split at h
  ·rename_i l hx;obtain ⟨v,p,h⟩:=ay h;have E:=bu k hx;simp only [VR] at E;obtain ⟨U,B,W⟩:=E;obtain ⟨y,hy,S⟩:=W.get p;have hy':U[i]?=some y:=by simpa using hy
   exact ⟨_,h,.val (x:=y) (by simp [execOp,j,B,Instr.extract,hy']) S⟩
  ·cases h
 | typeAssert x xt at_ ok=>
  rw [j] at h;simp only [effK] at h;split at h
  case h_2=>cases h
  rename_i t v hx;have p:=bu k hx;simp only [VR] at p;obtain ⟨y,B,hy⟩:=p;split at h
  ·cases h
  ·rename_i d O N;split at h
   case h_2=>cases h
   rename_i M;have M:=bB M;subst M;cases ok with
   | true=>
    refine ⟨_,h,.val (x:=.tuple #[y,.bool true]) ?_ (by simp only [VR,VRs];exact ⟨_,rfl,y,[.bool true],rfl,hy,_,[],rfl,rfl,rfl⟩)⟩;simp only [execOp,j,B,Instr.typeAssert,az,be N,aB];cases d<;>first | simp | exact absurd rfl (O _)
   | false=>
    refine ⟨_,h,.val (x:=y) ?_ hy⟩;simp only [execOp,j,B,Instr.typeAssert,az,be N,aB];cases d<;>first | simp | exact absurd rfl (O _)
  ·cases h
 | call cl=>rw [j] at h;exact Qz j k C h
 | _=>rw [j] at h;simp [effK] at h
end ops
end Go.Abs
