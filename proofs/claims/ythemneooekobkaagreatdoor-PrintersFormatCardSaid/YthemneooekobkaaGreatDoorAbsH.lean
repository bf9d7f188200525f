
/- The abstract effect of an operation is what the model's own operation does: the operations that make no memory; all of them together.
   Conditions: none; generic over the program. -/
import Derived.Test.YthemneooekobkaaGreatDoorAbsG
import Derived.Laws.BytesArg
import Derived.Laws.BytesString
import Derived.Lib.ConvBytes
import Derived.Laws.MakeOwn
import Derived.Deep.AppendSrc
import Derived.MapKept
set_option linter.unusedSimpArgs false
set_option linter.unusedVariables false
namespace Go.Abs
variable {P:Program}
section ops
variable {α:Type} {ι:Inj} {s:St} {a:Act} {w:World} {f:Nat} {o:Oper} {c:Eff->Option α} {z:α}
theorem zq {t:TypeId} {a:Array Field} {fd:Field} {i:Nat} {b:TypeInfo} (d:P.underlying t=some (.struct a)) (c:a[i]?=some fd) (hi:P.info? fd.type=some b)
  (hp:0<P.cellsOf fd.type) (r off:Nat) (w:World):(Instr.fieldAt t (.pointer (some ⟨r,off,none⟩)) i).run P w=.ok (.pointer (some ⟨r,off+fd.offset,none⟩)) w:=by
 simp only [Instr.fieldAt,ay,aY d,aA,c,Instr.sureAddr,aF,fieldPlace,gn hi,show ¬(P.cellsOf fd.type=0) by omega,aE,nV]
theorem A3 {t:TypeId} {x:Operand} {i:Nat} (v:o.op=.fieldAddr t x i) (u:TR ι s.T a.tmps) (h:effK P (opd s.T) s.H f (.fieldAddr t x i) c=some z):
  ∃e,c e=some z/\gR P ι f o a w e:=by
 simp only [effK] at h;split at h
 ·rename_i b off hx;split at h
  ·rename_i A p;split at h
   ·rename_i fd m;split at h
    ·rename_i hp;obtain ⟨y,g⟩:=cf hp;have k:=bu u hx;simp only [VR] at k;obtain ⟨r,n,l⟩:=k;have d:=zq p (by simpa using m) g (aL hp) r.r off w;exact ⟨_,h,.val (x:=.pointer (some ⟨r.r,off+fd.offset,none⟩)) (by simp only [execOp,v,l,ay,d,aA,aF]) (by simp only [VR,qP];exact ⟨r,n,rfl⟩)⟩
    ·cases h
   ·cases h
  ·cases h
 ·rename_i q b j off hx;split at h
  ·rename_i A p;split at h
   ·rename_i fd m;split at h
    ·rename_i hp;obtain ⟨y,g⟩:=cf hp;have k:=bu u hx;simp only [VR] at k;obtain ⟨r,n,l⟩:=k;have d:=zq p (by simpa using m) g (aL hp) r.r (r.o+(j*q+off)) w;exact ⟨_,h,.val (x:=.pointer (some ⟨r.r,r.o+(j*q+off)+fd.offset,none⟩)) (by simp only [execOp,v,l,ay,d,aA,aF]) (by simp only [VR,qP];exact ⟨r,n,by rw [gO,gO]⟩)⟩
    ·cases h
   ·cases h
  ·cases h
 ·cases h
theorem Na {t:TypeId} {x:Operand} {i:Nat} (r:o.op=.field t x i) (B:TR ι s.T a.tmps) (h:effK P (opd s.T) s.H f (.field t x i) c=some z):
  ∃e,c e=some z/\gR P ι f o a w e:=by
 simp only [effK] at h;split at h
 ·rename_i l hx;have p:=bu B hx;simp only [VR] at p;obtain ⟨q,n,j⟩:=p;split at h
  ·rename_i C u;split at h
   ·rename_i fd A;have hf':C[i]?=some fd:=by simpa using A
    split at h
    ·rename_i b;split at h
     ·have D:∃d,P.underlying fd.type=some d:=by
       unfold bZ at b;split at b
       ·exact ⟨_,by assumption⟩
       ·exact ⟨_,by assumption⟩
       ·cases b
      obtain ⟨d',g⟩:=D;obtain ⟨F,k⟩:=nM g;refine ⟨_,h,.val (x:=.agg (q.extract fd.offset (fd.offset+P.cellsOf fd.type))) ?_ (qQ (j.extract _ _))⟩;simp only [execOp,r,n,Instr.field,ay,aY u,aA,hf',asAgg,aF,part,kU g,b,aM,gn k]
     ·cases h
    ·rename_i b;split at h
     ·rename_i d' g;obtain ⟨v,E,h⟩:=ax h;obtain ⟨y,hy,m⟩:=j.get E;have hy':q[fd.offset]?=some y:=by simpa using hy
      refine ⟨_,h,.val (x:=y) ?_ m⟩;simp only [execOp,r,n,Instr.field,ay,aY u,aA,hf',asAgg,aF,part,kU g,b,bz,aE,hy']
     ·cases h
   ·cases h
  ·cases h
 ·cases h
theorem pH {t e:TypeId} {m:Nat} {a:TypeInfo} (c:P.underlying t=some (.array m e)) (hi:P.info? e=some a) (k:IntKind) {n:Int} (b:0<=n) (d:n<m) (r off:Nat) (w:World):
  (Instr.indexAt t (.pointer (some ⟨r,off,none⟩)) (.int k n)).run P w=.ok (.pointer (some ⟨r,off+n.toNat*P.cellsOf e,none⟩)) w:=by
 simp only [Instr.indexAt,asIntOf,ay,aF,aA,aY c,Instr.sureAddr,b,d,and_self,aM,gn hi,nV]
theorem md {t e:TypeId} {m cp:Nat} {a:TypeInfo} (c:P.underlying t=some (.slice e)) (hi:P.info? e=some a) (k:IntKind) {n:Int} (b:0<=n) (d:n<m) (r off:Nat) (w:World):
  (Instr.indexAt t (.slice (some ⟨r,off,none⟩) m cp) (.int k n)).run P w=.ok (.pointer (some ⟨r,off+n.toNat*P.cellsOf e,none⟩)) w:=by
 simp only [Instr.indexAt,asIntOf,ay,aF,aA,aY c,b,d,and_self,aM,gn hi,nV]
theorem CH {t:TypeId} {x i:Operand} (G:o.op=.indexAddr t x i) (E:TR ι s.T a.tmps) (M:WR ι s.H s.nb w) (h:effK P (opd s.T) s.H f (.indexAddr t x i) c=some z):
  ∃e,c e=some z/\gR P ι f o a w e:=by
 simp only [effK] at h;split at h
 case h_2=>cases h
 rename_i k n hi;have u:=bu E hi;simp only [VR] at u;split at h
 ·rename_i m e D;split at h
  ·rename_i b off hx;have p:=bu E hx;simp only [VR] at p;obtain ⟨r,v,B⟩:=p;split at h
   ·rename_i hp;obtain ⟨I,g⟩:=cf hp;obtain ⟨j,C,h⟩:=ax h;obtain ⟨g0,A,rfl⟩:=pt C;have d:=pH D g k g0 A r.r off w;exact ⟨_,h,.val (x:=.pointer (some ⟨r.r,off+n.toNat*P.cellsOf e,none⟩)) (by simp only [execOp,G,B,u,ay,d,aA,aF]) (by simp only [VR,qP,xT];exact ⟨r,v,rfl⟩)⟩
   ·cases h
  ·rename_i J b K off hx;have p:=bu E hx;simp only [VR] at p;obtain ⟨r,v,B⟩:=p;split at h
   ·rename_i hp;obtain ⟨I,g⟩:=cf hp;obtain ⟨j,C,h⟩:=ax h;obtain ⟨g0,A,rfl⟩:=pt C;have d:=pH D g k g0 A r.r (r.o+(K*J+off)) w;exact ⟨_,h,.val (x:=.pointer (some ⟨r.r,r.o+(K*J+off)+n.toNat*P.cellsOf e,none⟩)) (by simp only [execOp,G,B,u,ay,d,aA,aF]) (by simp only [VR,qP,xT];exact ⟨r,v,by rw [gO,gO]⟩)⟩
   ·cases h
  ·cases h
 ·rename_i e D;split at h
  ·rename_i b off m cp hx;have p:=bu E hx;simp only [VR] at p;obtain ⟨r,cap,v,_,_,B⟩:=p;split at h
   ·rename_i hp;obtain ⟨I,g⟩:=cf hp;obtain ⟨j,C,h⟩:=ax h;obtain ⟨g0,A,rfl⟩:=pt C;have d:=md (cp:=cap) D g k g0 A r.r off w;exact ⟨_,h,.val (x:=.pointer (some ⟨r.r,off+n.toNat*P.cellsOf e,none⟩)) (by simp only [execOp,G,B,u,ay,d,aA,aF]) (by simp only [VR,qP,xT];exact ⟨r,v,rfl⟩)⟩
   ·cases h
  ·rename_i b hx;have p:=bu E hx;simp only [VR] at p;split at h
   case h_2=>cases h
   rename_i tr l L;split at h
   case h_2=>cases h
   rename_i hp;simp only [az,jG] at hp;obtain ⟨N,hp⟩:=hp;obtain ⟨I,g⟩:=cf hp;obtain ⟨j,C,h⟩:=ax h;obtain ⟨g0,A,rfl⟩:=pt C;rcases jQ M L with ⟨q,Y,Z,fr,F,R,O,Q,V,S,U⟩ | ⟨F,rfl⟩
   ·rcases p with ⟨X,v,B⟩ | ⟨v,_⟩
    ·rw [v] at F;cases F;have g1':n<(q.n:Int):=by rw [<-O];exact A
     have d:=md (cp:=q.k) D g k g0 g1' q.r q.o w;exact ⟨_,h,.val (x:=.pointer (some ⟨q.r,q.o+n.toNat*P.cellsOf e,none⟩)) (by simp only [execOp,G,B,u,ay,d,aA,aF]) (by simp only [VR];exact ⟨q,v,by rw [cM]⟩)⟩
    ·rw [v] at F;cases F
   ·simp at A;omega
  ·rename_i J b W m _ hx;have p:=bu E hx;simp only [VR] at p;split at h
   case h_2=>cases h
   rename_i hp;simp only [az,jG] at hp;obtain ⟨rfl,hp⟩:=hp;obtain ⟨I,g⟩:=cf hp;obtain ⟨j,C,h⟩:=ax h;obtain ⟨g0,A,rfl⟩:=pt C;rcases p with ⟨q,cp,off,v,_,y,B⟩ | ⟨_,⟨rfl,_⟩,_⟩
   ·have d:=md (cp:=cp) D g k g0 A q.r off w;have y:=y (by omega);exact ⟨_,h,.val (x:=.pointer (some ⟨q.r,off+n.toNat*P.cellsOf e,none⟩)) (by simp only [execOp,G,B,u,ay,d,aA,aF]) (by simp only [VR,qP];exact ⟨q,v,by rw [y,iq,cM,gO]⟩)⟩
   ·omega
  ·cases h
 ·cases h
theorem jH {t e:TypeId} {m:Nat} {c:TypeInfo} (f:P.underlying t=some (.array m e)) (hi:P.info? e=some c) (k:IntKind) {n:Int} (d:0<=n) (b:n<m) (a:Array Value) (w:World):
  (Instr.index t (.agg a) (.int k n)).run P w=(part e a (n.toNat*P.cellsOf e)).run P w:=by
 simp only [Instr.index,asIntOf,ay,aF,aA,aY f,d,b,and_self,aM,gn hi]
theorem rU {t:TypeId} {d:TypeDesc} (c:P.underlying t=some d) (b:bZ P t=false) {a:Array Value} {off:Nat} {x:Value} (hx:a[off]?=some x) (w:World):
  (part t a off).run P w=.ok x w:=by
 simp only [part,ay,kU c,b,aA,bz,aE,hx,aF]
theorem wa {t:TypeId} {d:TypeDesc} (b:P.underlying t=some d) (c:bZ P t=true) (a:Array Value) (off:Nat) (w:World):
  (part t a off).run P w=.ok (.agg (a.extract off (off+P.cellsOf t))) w:=by
 obtain ⟨i,hi⟩:=nM b;simp only [part,ay,kU b,c,aA,aM,gn hi,aF]
theorem ww {t:TypeId} (f:P.underlying t=some .string) {l:aa} {n:Int} {b:UInt8} (h:sx l n=some b) (k:IntKind) (w:World):
  (Instr.index t (.string ⟨l.toArray⟩) (.int k n)).run P w=.ok (.int .u8 b.toNat) w:=by
 unfold sx at h;split at h
 ·rename_i e;have d:(ByteArray.mk l.toArray)[n.toNat]?=some b:=by
   have a:n.toNat<l.length:=by
    rcases aH n.toNat l.length with c | c
    ·exact c
    ·rw [ga c] at h;cases h
   have hs:n.toNat<(ByteArray.mk l.toArray).size:=a;rw [getElem?_pos (ByteArray.mk l.toArray) n.toNat hs];rw [aT a] at h;simp only [av] at h ⊢;exact h
  simp only [Instr.index,asIntOf,ay,aF,aA,aY f,e,aM,d]
 ·cases h
theorem Oo {t:TypeId} {x i:Operand} (F:o.op=.index t x i) (G:TR ι s.T a.tmps) (h:effK P (opd s.T) s.H f (.index t x i) c=some z):
  ∃e,c e=some z/\gR P ι f o a w e:=by
 simp only [effK] at h;split at h
 case h_2=>cases h
 rename_i k n hi;have d:=bu G hi;simp only [VR] at d;split at h
 ·rename_i m e C;split at h
  ·cases h
  rename_i hp;obtain ⟨N,r⟩:=cf hp;split at h
  ·rename_i k' m' l hx;have g:=bu G hx;simp only [VR] at g;obtain ⟨S,E⟩:=g;split at h
   ·rename_i k2 p;split at h
    ·rename_i q;have q:=bB q;obtain ⟨j,B,h⟩:=ax h;obtain ⟨g0,u,rfl⟩:=pt B;obtain ⟨v,g,h⟩:=ax h;refine ⟨_,h,.val (x:=.int k' v) ?_ (by simp [VR])⟩;simp only [execOp,F,E,d,ay,jH C r k g0 u];rw [rU p (by simp [bZ,p]) (x:=.int k' v) (by simp [q,g])];rfl
    ·cases h
   ·cases h
  ·rename_i l hx;have g:=bu G hx;simp only [VR] at g;obtain ⟨J,E,A⟩:=g;split at h
   ·rename_i Q p;obtain ⟨j,B,h⟩:=ax h;obtain ⟨g0,u,rfl⟩:=pt B;refine ⟨_,h,.val (x:=.agg (J.extract (n.toNat*P.cellsOf e) (n.toNat*P.cellsOf e+P.cellsOf e))) ?_ (qQ (A.extract _ _))⟩;simp only [execOp,F,E,d,ay,jH C r k g0 u,wa p (by simp [bZ,p]),aA,aF]
   ·rename_i m2 U p;obtain ⟨j,B,h⟩:=ax h;obtain ⟨g0,u,rfl⟩:=pt B;refine ⟨_,h,.val (x:=.agg (J.extract (n.toNat*P.cellsOf e) (n.toNat*P.cellsOf e+P.cellsOf e))) ?_ (qQ (A.extract _ _))⟩;simp only [execOp,F,E,d,ay,jH C r k g0 u,wa p (by simp [bZ,p]),aA,aF]
   ·rename_i p;split at h
    ·rename_i q;have q:=bB q;split at h
     ·rename_i R I;obtain ⟨j,B,h⟩:=ax h;obtain ⟨g0,u,rfl⟩:=pt B;obtain ⟨v,g,h⟩:=ax h;obtain ⟨y,hy,D⟩:=A.get (j:=n.toNat) (v:=.s v) (by rw [vc I];simp [g]);refine ⟨_,h,.val (x:=y) ?_ D⟩;simp only [execOp,F,E,d,ay,jH C r k g0 u];rw [rU p (by simp [bZ,p]) (x:=y) (by simpa [q] using hy)];rfl
     ·cases h
    ·cases h
   ·rename_i d' O L M p;split at h
    ·rename_i q;have q:=bB q;obtain ⟨j,B,h⟩:=ax h;obtain ⟨g0,u,rfl⟩:=pt B;obtain ⟨v,g,h⟩:=ax h;obtain ⟨y,hy,D⟩:=A.get g;refine ⟨_,h,.val (x:=y) ?_ D⟩;simp only [execOp,F,E,d,ay,jH C r k g0 u];rw [rU p (by simp only [bZ,p];cases d'<;>simp_all) (x:=y) (by simpa [q] using hy)];rfl
    ·cases h
   ·cases h
  ·cases h
 ·rename_i C;split at h
  ·rename_i l hx;have g:=bu G hx;simp only [VR] at g;obtain ⟨b,K,h⟩:=ax h;refine ⟨_,h,.val (x:=.int .u8 b.toNat) ?_ (by simp [VR])⟩;simp only [execOp,F,g,d,ay,ww C K,aA,aF]
  ·cases h
 ·cases h
theorem Cd {t:TypeId} (a:P.underlying t=some .string) {l:aa} {lo hi:Option Value} {L H:Nat} {w:World}
  (b:(Instr.sliceBounds false l.length l.length lo hi none).run P w=.ok (L,H,l.length) w):
  (Instr.sliceAt t (.string ⟨l.toArray⟩) lo hi none).run P w=.ok (.string ⟨((l.take H).drop L).toArray⟩) w:=by
 rw [run_sliceAt_string w t _ _ _ _ a];have hs:(ByteArray.mk l.toArray).size=l.length:=rfl;simp only [Instr.slice,ay,aY a,aA,xP,bz,aE,hs,b,aF];congr 2;apply KO;rw [ByteArray.data_extract];apply lP;simp [List.extract,xZ]
theorem CL {t e:TypeId} {n:Nat} {b:TypeInfo} (d:P.underlying t=some (.array n e)) (hi:P.info? e=some b) {lo a:Option Value} {L H r off:Nat} {w:World}
  (c:(Instr.sliceBounds false n n lo a none).run P w=.ok (L,H,n) w):
  (Instr.sliceAt t (.pointer (some ⟨r,off,none⟩)) lo a none).run P w=.ok (.slice (some ⟨r,if n=L then off else off+L*P.cellsOf e,none⟩) (H - L) (n - L)) w:=by
 simp only [Instr.sliceAt,ay,aY d,aA,Instr.sureAddr,aF,c,gn hi,nV];split<;>rfl
theorem oU {t e:TypeId} {n cp:Nat} {b:TypeInfo} (d:P.underlying t=some (.slice e)) (hi:P.info? e=some b) {lo a:Option Value} {L H r off:Nat} {w:World}
  (c:(Instr.sliceBounds true n cp lo a none).run P w=.ok (L,H,cp) w):
  (Instr.sliceAt t (.slice (some ⟨r,off,none⟩) n cp) lo a none).run P w=.ok (.slice (some ⟨r,if cp=L then off else off+L*P.cellsOf e,none⟩) (H - L) (cp - L)) w:=by
 simp only [Instr.sliceAt,Instr.slice,ay,aY d,aA,c,gn hi,aF];split
 ·rfl
 ·simp only [fg,nV]
theorem gU (n l x y:Nat):cond (Nat.beq n l) x y=if n=l then x else y:=by
 by_cases h:n=l
 ·subst h;simp
 ·have:Nat.beq n l=false:=by
   cases a:Nat.beq n l
   ·rfl
   ·exact absurd (bB a) h
  simp [this,h]
theorem u0 {t e:TypeId} {c:TypeInfo} {b:Option Addr} (f:P.underlying t=some (.slice e)) (hi:P.info? e=some c) {lo a:Option Value} {w:World}
  (d:(Instr.sliceBounds true 0 0 lo a none).run P w=.ok (0,0,0) w):
  (Instr.sliceAt t (.slice b 0 0) lo a none).run P w=.ok (.slice b 0 0) w:=by
 simp only [Instr.sliceAt,Instr.slice,ay,aY f,aA,d,gn hi,aF,aM]
theorem D7 {T:List (Nat×Option V)} (p:TR ι T a.tmps) {lo hi:Option Operand} {l h:Option Int} (x:rK (opd T) lo=some l)
  (t:rK (opd T) hi=some h) {len:Nat} {c:Nat->Nat->Option α} (e:(hiK len len h λh=>loK h l λl=>c h l)=some z):
  ∃H L,c H L=some z/\H<=len/\L<=H/\∀n,len<=n->∀w,(Instr.sliceBounds true len n (lo.map a.eval) (hi.map a.eval) none).run P w=.ok (L,H,n) w:=by
 have i:∀{H:Nat},loK H l (c H)=some z->∃L,c H L=some z/\L<=H/\
   ∀w,(match lo.map a.eval with | some v=>Instr.sliceBound v H .sliceB | none=>pure 0).run P w=.ok L w:=by
  intro H e;rcases qe p x with ⟨rfl,g⟩ | ⟨k,m,rfl,g⟩
  ·exact ⟨0,e,kE _,λw=>by rw [g];rfl⟩
  ·simp only [loK] at e;obtain ⟨L,j,o⟩:=ax e;obtain ⟨g0,q,rfl⟩:=mc j;exact ⟨_,o,by omega,λw=>by rw [g];exact run_sliceBound w k m H .sliceB g0 q⟩
 rcases qe p t with ⟨rfl,g⟩ | ⟨k,m,rfl,g⟩
 ·simp only [hiK] at e;obtain ⟨L,j,o,d⟩:=i e;refine ⟨len,L,j,aX _,o,λn s w=>?_⟩;have d:=d w;rw [g];simp only [Instr.sliceBounds,ay,aF,aA,xP,bz,aE];cases b:lo.map a.eval with
  | none=>rw [b] at d;simp only [aF,yw,uj] at d;simp [d]
  | some v=>rw [b] at d;simp only [] at d;simp [d]
 ·simp only [hiK] at e;obtain ⟨H,j,o⟩:=ax e;obtain ⟨g0,q,rfl⟩:=mc j;obtain ⟨L,r,d,f⟩:=i o;refine ⟨_,L,r,by omega,d,λn s w=>?_⟩;have f:=f w;rw [g];have u:=run_sliceBound (P:=P) w k m n .sliceAcap g0 (by omega);simp only [Instr.sliceBounds,ay,aF,aA,xP,bz,aE,aM,u];cases b:lo.map a.eval with
  | none=>rw [b] at f;simp only [aF,yw,uj] at f;simp [f]
  | some v=>rw [b] at f;simp only [] at f;simp [f]
theorem M5 {t:TypeId} {x:Operand} {lo hi:Option Operand} (I:o.op=.slice t x lo hi none) (G:TR ι s.T a.tmps) (hW:WR ι s.H s.nb w) (h:effK P (opd s.T) s.H f (.slice t x lo hi none) c=some z):
  ∃e,c e=some z/\gR P ι f o a w e:=by
 simp only [effK] at h;obtain ⟨v,hx,D⟩:=ax h;obtain ⟨l,K,X⟩:=ax D;obtain ⟨hh,y,d⟩:=ax X;clear h D X;have A:=bu G hx;clear hx;split at d
 ·rename_i C;cases v<;>simp only [reduceCtorEq] at d;rename_i sl;simp only [VR] at A;obtain ⟨H,L,g,_,_,_,i,_,B⟩:=yA (P:=P) G K y (isSlice:=false) d;refine ⟨_,g,.val (x:=.string ⟨((sl.take H).drop L).toArray⟩) ?_ (by simp [VR])⟩;simp only [execOp,I,A,ay,jl];rw [Cd C (B w)];rfl
 ·rename_i n e C;split at d
  case h_2=>cases d
  rename_i hp;obtain ⟨ti,p⟩:=cf hp;cases v<;>simp only [reduceCtorEq] at d;rename_i b off;simp only [VR] at A;obtain ⟨r,i,u⟩:=A;obtain ⟨H,L,g,_,F,E,g4,_,B⟩:=yA (P:=P) G K y (isSlice:=false) d;have Y:H<=n:=by
   cases hh with
   | none=>exact zi (F rfl)
   | some q=>exact E (by simp)
  refine ⟨_,g,.val (x:=.slice (some ⟨r.r,if n=L then off else off+L*P.cellsOf e,none⟩) (H - L) (n - L)) ?_ ?_⟩
  ·simp only [execOp,I,u,ay,jl];rw [CL C p (B w)];rfl
  ·simp only [VR];exact ⟨r,n - L,i,λm N=>by cases N;rfl,by omega,by rw [gU,qP,xT]⟩
 ·rename_i e C;split at d
  case h_2=>cases d
  rename_i hp;obtain ⟨ti,p⟩:=cf hp;cases v<;>try (simp only [reduceCtorEq] at d;done)
  ·rename_i b;simp only [VR] at A;simp only at d;split at d
   case h_2=>cases d
   rename_i tr m V;split at d
   case h_2=>cases d
   rename_i J;have J:=bB J;obtain ⟨H,L,g,F,E,B⟩:=D7 (P:=P) G K y d;rcases jQ hW V with ⟨q,cs,e',fr,D,X,U,q5,_,_,_⟩ | ⟨D,rfl⟩
   ·rcases A with ⟨q',i,u⟩ | ⟨i,_⟩
    ·rw [i] at D;cases D;refine ⟨_,g,.val (x:=.slice (some ⟨q.r,if q.k=L then q.o else q.o+L*P.cellsOf e,none⟩) (H - L) (q.k - L)) ?_ ?_⟩
     ·simp only [execOp,I,u,ay,jl];rw [<-U,oU C p (B q.k (by omega) w)];rfl
     ·simp only [VR];exact .inl ⟨q,_,_,i,⟨by omega,kY⟩,λR=>by rw [ab (by omega)],rfl⟩
    ·rw [i] at D;cases D
   ·rcases A with ⟨q,i,u⟩ | ⟨i,S,u⟩
    ·rw [i] at D;cases D
    ·simp only [bh,CM] at F E;subst F;simp only [CM] at E;subst E;refine ⟨_,g,.val (x:=.slice S 0 0) ?_ (by unfold VR;exact .inr ⟨i,⟨rfl,kY⟩,S,rfl⟩)⟩;simp only [execOp,I,u,ay,jl];rw [u0 C p (B 0 (aX _) w)];rfl
  ·rename_i zz b j n _;simp only [VR] at A;simp only at d;split at d
   case h_2=>cases d
   rename_i J;have J:=bB J;obtain ⟨H,L,g,F,E,B⟩:=D7 (P:=P) G K y d;rcases A with ⟨q,cp,off,i,⟨O,_⟩,Q,u⟩ | ⟨i,⟨rfl,_⟩,S,u⟩
   ·refine ⟨_,g,.val (x:=.slice (some ⟨q.r,if cp=L then off else off+L*P.cellsOf e,none⟩) (H - L) (cp - L)) ?_ ?_⟩
    ·simp only [execOp,I,u,ay,jl];rw [oU C p (B cp O w)];rfl
    ·simp only [VR];exact .inl ⟨q,_,_,i,⟨by omega,kY⟩,λR=>by rw [ab (by omega),Q (by omega),qP,iq,J,gO],rfl⟩
   ·simp only [CM] at F;subst F;simp only [CM] at E;subst E;refine ⟨_,g,.val (x:=.slice S 0 0) ?_ (by unfold VR;exact .inr ⟨i,⟨rfl,kY⟩,S,rfl⟩)⟩;simp only [execOp,I,u,ay,jl];rw [u0 C p (B 0 (aX _) w)];rfl
  rename_i b off n cap;simp only [VR] at A;obtain ⟨r,cp,i,W,O,u⟩:=A;cases cap with
  | some m=>
   obtain rfl:=W m rfl;obtain ⟨H,L,g,_,F,E,g4,_,B⟩:=yA (P:=P) G K y (isSlice:=true) d;have Y:H<=cp:=by
    cases hh with
    | none=>have:=F rfl;omega
    | some q=>exact E (by simp)
   refine ⟨_,g,.val (x:=.slice (some ⟨r.r,if cp=L then off else off+L*P.cellsOf e,none⟩) (H - L) (cp - L)) ?_ ?_⟩
   ·simp only [execOp,I,u,ay,jl];rw [oU C p (B w)];rfl
   ·simp only [VR];exact ⟨r,cp - L,i,λm N=>by cases N;rfl,by omega,by rw [gU,qP,xT]⟩
  | none=>
   have hll:l=none:=by
    cases l with
    | none=>rfl
    | some q=>
     cases hh with
     | none=>simp [hiK] at d
     | some q=>simp only [hiK] at d;obtain ⟨_,_,U⟩:=ax d;cases U
   subst hll;have M:lo.map a.eval=none:=by
    rcases qe G K with ⟨_,g⟩ | ⟨k,m,h0,_⟩
    ·exact g
    ·cases h0
   have key:∃H,c { val:=some (.sl b off H none) }=some z/\H<=n/\(Instr.sliceBounds true n cp (lo.map a.eval) (hi.map a.eval) none).run P w=.ok (0,H,cp) w:=by
    rcases qe G y with ⟨rfl,g⟩ | ⟨k,m,rfl,g⟩
    ·simp only [hiK] at d;exact ⟨n,d,aX _,by rw [g,M];simp [Instr.sliceBounds]⟩
    ·simp only [hiK] at d;obtain ⟨H,h2,Z⟩:=ax d;obtain ⟨g0,g1,rfl⟩:=mc h2;refine ⟨_,Z,by omega,?_⟩;have V:=run_sliceBound (P:=P) w k m cp .sliceAcap g0 (by omega);rw [g,M];simp [Instr.sliceBounds,V]
   obtain ⟨H,g,h2,Z⟩:=key;refine ⟨_,g,.val (x:=.slice (some ⟨r.r,if cp=0 then off else off+0*P.cellsOf e,none⟩) (H - 0) (cp - 0)) ?_ ?_⟩
   ·simp only [execOp,I,u,ay,jl];rw [oU C p Z];rfl
   ·simp only [VR];exact ⟨r,cp,i,λm N=>(by cases N),by omega,by simp⟩
 ·cases d
theorem yz (a:List Int):a.foldl (λ(r:ByteArray) n=>r.push (UInt8.ofNat n.toNat)) ByteArray.empty=⟨(iG a).toArray⟩:=by
 rw [foldl_push_bytes];apply KO;simp [iG]
theorem zG {w:World} {r off q m cp:Nat} {l:List Int} {e:TypeId} {fr:Nat×Nat} (h:w.heap[r]?=some (.cells (l.map (Value.int .u8)).toArray e fr)) (g:l.length=q) (f:off+m<=q):
  (Conv.bytesToString (.slice (some ⟨r,off,none⟩) m cp)).run P w=.ok (.string ⟨(iG ((l.drop off).take m)).toArray⟩) w:=by
 have a:(((l.drop off).take m).map (Value.int .u8)).length=m:=by simp;omega
 have hc:=yq (P:=P) w ⟨r,off,none⟩ (((l.drop off).take m).map (Value.int .u8)) (λj v b=>by
  have c:j<m:=by
   rcases aH j m with d | d
   ·exact d
   ·rw [ga (by omega)] at b;cases b
  rw [nV,bi h];rw [nr,qf c,lV] at b;simpa using b)
 rw [a] at hc;rw [run_bytesToString w _ m cp _ hc,yz]
theorem BA (w:World) (e:TypeId) (s:ByteArray):
  Lib.bytesWorld w e s=World.alloc { w with drawn:=w.drawn+1 } (.cells (Lib.bytesCells w e s) e ((Lib.bytesCells w e s).size,(Lib.bytesCells w e s).size+1)):=by
 have c:=Lib.bytesWorld_at_new w e s;have f:=Lib.bytesWorld_size w e s;have d:(Lib.bytesWorld w e s).heap=w.heap.push (.cells (Lib.bytesCells w e s) e ((Lib.bytesCells w e s).size,(Lib.bytesCells w e s).size+1)):=by
  apply Tn;intro j;by_cases b:j=w.heap.size
  ·subst b;rw [c];simp
  ·by_cases a:j<w.heap.size
   ·rw [Lib.bytesWorld_at_old w e s j a,Array.getElem?_push,ab b]
   ·rw [wx (by omega),wx (by simp;omega)]
 show ({ (Lib.bytesWorld w e s) with heap:=(Lib.bytesWorld w e s).heap }:World)=_;rw [d];rfl
theorem sR:∀(l:List Int),l.flatMap (vals [.i .u8])=l.map (Value.int .u8)
 | []=>rfl
 | x::l=>by
  have:=sR l;simp only [pV,ge,vals,Lf.val] at this ⊢;rw [this];rfl
theorem tD {w:World} {r cp:Nat} {l:List Int} {b:Array Value} {e:TypeId} {fr:Nat×Nat} {m:Nat} (h:w.heap[r]?=some (.cells b e fr)) (k:m<=b.size)
  {o:Nat} (p:(b.toList.drop o).take (l.length*([Lf.i .u8]:List Lf).length)=l.flatMap (vals [.i .u8])) {j n:Nat} (s:j+n<=l.length):
  (Conv.bytesToString (.slice (some ⟨r,o+j,none⟩) n cp)).run P w=.ok (.string ⟨(iG ((l.drop j).take n)).toArray⟩) w:=by
 have hl':(b.toList.drop o).take l.length=l.map (Value.int .u8):=by rw [<-sR];simpa using p
 have a:(((l.drop j).take n).map (Value.int .u8)).length=n:=by simp;omega
 have hc:=yq (P:=P) w ⟨r,o+j,none⟩ (((l.drop j).take n).map (Value.int .u8)) (λi v c=>by
  have f:i<n:=by
   rcases aH i n with g | g
   ·exact g
   ·rw [ga (by omega)] at c;cases c
  rw [nV,bi h];rw [nr,qf f,lV] at c;have d:=cD (λq:List Value=>q[j+i]?) hl';simp only [qf (show j+i<l.length by omega),nr,lV] at d;rw [c] at d;simpa [gO] using d)
 rw [a] at hc;rw [run_bytesToString w _ n cp _ hc,yz]
theorem tC {w:World} (c:Option Addr):(Conv.bytesToString (.slice c 0 0)).run P w=.ok (.string ⟨#[]⟩) w:=by
 cases c with
 | none=>rfl
 | some a=>
  have b:=yq (P:=P) w a ([].map (Value.int .u8)) (λj v d=>by simp at d);exact run_bytesToString (P:=P) w a 0 0 [] b
theorem FY {B d:TypeId} {x:Operand} (A:o.op=.convert B d x) (hT:TR ι s.T a.tmps) (L:WR ι s.H s.nb w) (h:effK P (opd s.T) s.H f (.convert B d x) c=some z):
  ∃e,c e=some z/\gR P ι f o a w e:=by
 simp only [effK] at h;obtain ⟨v,hx,q⟩:=ax h;clear h;have g:=bu hT hx;clear hx;split at q
 case h_2=>cases q
 rename_i C hs;split at q
 ·rename_i k t;cases v<;>simp only [reduceCtorEq] at q;rename_i k' n;simp only [VR] at g;refine ⟨_,q,.val (x:=.int k (k.wrap n)) ?_ (by simp [VR])⟩;simp only [execOp,A,g,ay,convert,aY hs,aY t,aA];cases C<;>rfl
 ·rename_i t;cases v<;>simp only [reduceCtorEq] at q
  ·rename_i b;simp only [VR] at g;cases C<;>try (simp only [reduceCtorEq] at q;done)
   rename_i e;simp only at q;split at q
   case h_2=>cases q
   rename_i u;split at q
   case h_2=>cases q
   rename_i l E;refine ⟨_,q,.val (x:=.string ⟨(iG l).toArray⟩) ?_ (by simp [VR])⟩;rcases jQ L E with ⟨q,cs,Y,fr,i,I,V,Z,M,N,_⟩ | ⟨i,rfl⟩
   ·rcases g with ⟨q',p,y⟩ | ⟨p,_⟩
    ·rw [p] at i;cases i;simp only [execOp,A,y,ay,run_convert_bytes_string w B d e _ _ _ hs u t];rw [<-V];have:=tD (P:=P) (cp:=q.k) I M N (j:=0) (n:=l.length) (by omega);simp only [cU,nq,cM] at this;rw [this];rfl
    ·rw [p] at i;cases i
   ·rcases g with ⟨q,p,y⟩ | ⟨p,Q,y⟩
    ·rw [p] at i;cases i
    ·simp only [execOp,A,y,ay,run_convert_bytes_string w B d e Q 0 0 hs u t,tC];rfl
  ·rename_i zz b j n _;simp only [VR] at g;cases C<;>try (simp only [reduceCtorEq] at q;done)
   rename_i e;simp only at q;split at q
   case h_2=>cases q
   rename_i u;split at q
   case h_2=>cases q
   rename_i l E;split at q
   case h_2=>cases q
   rename_i J;have J:=bB J;subst J;obtain ⟨hc,q⟩:=dZ q;have D:=aL hc;refine ⟨_,q,.val (x:=.string ⟨(iG ((l.drop j).take n)).toArray⟩) ?_ (by simp [VR])⟩;rcases g with ⟨W,cp,off,p,⟨G,_⟩,S,y⟩ | ⟨p,⟨rfl,_⟩,Q,y⟩
   ·rcases jQ L E with ⟨q',cs,Y,fr,i,I,V,Z,M,N,_⟩ | ⟨i,rfl⟩
    ·rw [p] at i;cases i;simp only [execOp,A,y,ay,run_convert_bytes_string w B d e _ _ _ hs u t];by_cases hn:0<n
     ·rw [S hn,rD];rw [tD (P:=P) (cp:=cp) I M N D];rfl
     ·have O:n=0:=by omega
      subst O;have K:=yq (P:=P) w ⟨W.r,off,none⟩ ([].map (Value.int .u8)) (λj v X=>by simp at X);have h0:=run_bytesToString (P:=P) w ⟨W.r,off,none⟩ 0 cp [] K;rw [h0];simp [iG];rfl
    ·rw [p] at i;cases i
   ·simp only [execOp,A,y,ay,run_convert_bytes_string w B d e Q 0 0 hs u t,tC];simp [iG]
  ·rename_i k' n;simp only [VR] at g;cases C<;>simp only [reduceCtorEq] at q;refine ⟨_,q,.val (x:=.string (Utf8.encode n)) ?_ ?_⟩
   ·simp only [execOp,A,g,ay,convert,aY hs,aY t,aA,Conv.intToString,aF]
   ·simp [VR]
  ·rename_i l;simp only [VR] at g;cases C<;>simp only [reduceCtorEq] at q;refine ⟨_,q,.val (x:=.string ⟨l.toArray⟩) ?_ (by simp [VR])⟩;simp only [execOp,A,g,ay,convert,aY hs,aY t,aA,aF]
  ·simp only [VR] at g;cases C<;>try (simp only [reduceCtorEq] at q;done)
   rename_i e;simp only at q;split at q
   ·rename_i u;refine ⟨_,q,.val (x:=.string .empty) ?_ (by simp only [VR];rfl)⟩;simp only [execOp,A,g,ay,run_convert_bytes_string w B d e none 0 0 hs u t];rfl
   ·cases q
  ·rename_i b off m cap;simp only [VR] at g;obtain ⟨r,cp,p,_,_,y⟩:=g;cases C<;>try (simp only [reduceCtorEq] at q;done)
   rename_i e;simp only at q;split at q
   ·rename_i u;split at q
    ·rename_i qn l E;obtain ⟨hc,q⟩:=dZ q;have D:=aL hc;obtain ⟨r',Y,fr,G,S,g3,_⟩:=wN L E;rw [p] at G;cases G;refine ⟨_,q,.val (x:=.string ⟨(iG ((l.drop off).take m)).toArray⟩) ?_ (by simp [VR])⟩;simp only [execOp,A,y,ay,run_convert_bytes_string w B d e _ _ _ hs u t,zG S g3 D,aA,aF]
    ·cases q
   ·cases q
 ·rename_i e t;split at q
  case h_2=>cases q
  rename_i u;cases v<;>try (simp only [reduceCtorEq] at q;done)
  rename_i l;simp only [VR] at g;cases C<;>simp only [reduceCtorEq] at q;refine ⟨_,q,.mkR (d:=w.drawn+1) (q:=(Rf.of w.heap.size (l.length) (grownCap w l.length 0 e))) (x:=.slice (some ⟨w.heap.size,0,none⟩) l.length (grownCap w l.length 0 e))
   (ob:=.cells (Lib.bytesCells w e ⟨l.toArray⟩) e ((Lib.bytesCells w e ⟨l.toArray⟩).size,(Lib.bytesCells w e ⟨l.toArray⟩).size+1)) ?_ rfl rfl ?_ ?_⟩
  ·simp only [execOp,A,g,ay,Lib.run_convert_string_bytes w B d e ⟨l.toArray⟩ hs t u,aA,aF,BA];rfl
  ·have F:l.length<=grownCap w l.length 0 e:=by simp only [grownCap,Question.cut];omega
   have U:((ByteArray.mk l.toArray).data.map λb=>Value.int .u8 b.toNat).size=l.length:=by simp
   refine ⟨_,e,_,rfl,by simp,F,?_,?_,?_⟩
   ·simp only [Lib.bytesCells,Array.size_append,U,Array.size_replicate,aC,bh];have:(ByteArray.mk l.toArray).size=l.length:=rfl;rw [this];omega
   ·simp only [Lib.bytesCells,xc,vH,aC,bh,dc,rD,cU];rw [vp (by simp),js (by simp)];rw [sR,Array.toList_map,ud];rfl
   ·refine .inr λj X R=>?_;exact absurd R.1 (by simp only;omega)
  ·simp only [VR];exact .inl ⟨_,dN _ _ _,rfl⟩
 ·cases q
theorem QY {S:Call} (R:o.op=.call S) (hT:TR ι s.T a.tmps) (hW:WR ι s.H s.nb w) (h:effK P (opd s.T) s.H f (.call S) c=some z):
  ∃e,c e=some z/\gR P ι f o a w e:=by
 obtain ⟨Q,args,D⟩:=S;simp only [effK] at h;split at h
 case h_2=>cases h
 rename_i b;obtain ⟨l,hl,q⟩:=ax h;clear h;have g:=xG hT hl;have J:(args.map a.eval).toList=args.toList.map a.eval:=by simp
 rw [<-J] at g;generalize hA:args.map a.eval=A at g;have B:∃U,∀w,((do let d <-resolve a.eval ⟨.builtin b,args,D⟩ o.type;invoke d.target d.args):Sem Next).run P w=(builtin b D o.type U A).run P w:=by
  refine ⟨args.map fun | .const _=>true | _=>false,λw=>?_⟩;simp only [resolve,hA,ay,aF,aA,invoke];rfl
 obtain ⟨U,B⟩:=B;have one:∀{X:Value},A.toList=[X]->A[0]?=some X:=by
  intro X p;have:A=#[X]:=by apply lP;simpa using p
  simp [this]
 have E:∀{t:TypeId} {r:List TypeId},D.toList=t::r->D[0]?=some t:=by
  intro t r u;rw [<-qJ,u];rfl
 have j:∀{n:Int} {rd:List Nat},b=.len->(∀w,(Builtin.len_ D o.type A).run P w=.ok (goInt n) w)->c { val:=some (.i .i64 n),rd:=rd }=some z->∃e,c e=some z/\gR P ι f o a w e:=by
  intro n rd O F hc;subst O;refine ⟨_,hc,.val (x:=.int .i64 n) ?_ (by simp [VR])⟩;simp only [execOp,R];rw [B w];simp only [builtin,ay,F,aA,aF,goInt]
 have C:∀{n:Int} {rd:List Nat},b=.cap->(∀w,(Builtin.cap_ D o.type A).run P w=.ok (goInt n) w)->c { val:=some (.i .i64 n),rd:=rd }=some z->∃e,c e=some z/\gR P ι f o a w e:=by
  intro n rd O F hc;subst O;refine ⟨_,hc,.val (x:=.int .i64 n) ?_ (by simp [VR])⟩;simp only [execOp,R];rw [B w];simp only [builtin,ay,F,aA,aF,goInt]
 split at q
 ·split at q
  ·rename_i sl;simp only [VRs,VR] at g;obtain ⟨_,_,p,rfl,rfl⟩:=g;split at q
   ·rename_i t r u;split at q
    ·rename_i v;refine j rfl (λw=>?_) q;simp only [Builtin.len_,E u,one p,ay,aY v,aA,aF];rfl
    ·cases q
   ·cases q
  ·rename_i N Z n cp;simp only [VRs,VR] at g;obtain ⟨_,_,p,⟨r,cap,_,_,_,rfl⟩,rfl⟩:=g;split at q
   ·rename_i t r u;split at q
    ·rename_i v;refine j rfl (λw=>?_) q;simp only [Builtin.len_,E u,one p,ay,aY v,aA,aF]
    ·cases q
   ·cases q
  ·simp only [VRs,VR] at g;obtain ⟨_,_,p,rfl,rfl⟩:=g;split at q
   ·rename_i t r u;split at q
    ·rename_i v;refine j rfl (λw=>?_) q;simp only [Builtin.len_,E u,one p,ay,aY v,aA,aF];rfl
    ·cases q
   ·cases q
  ·rename_i N;simp only [VRs,VR] at g;obtain ⟨_,_,p,M,rfl⟩:=g;split at q
   ·rename_i t r u;split at q
    ·rename_i v;split at q
     ·rename_i tr l O;refine j (rd:=[N]) rfl (λw=>?_) q;rcases jQ hW O with ⟨q,U,e',fr,K,q2,Y,q5,q6,q7,_⟩ | ⟨K,rfl⟩
      ·rcases M with ⟨q',G,rfl⟩ | ⟨G,_⟩
       ·rw [G] at K;cases K;simp only [Builtin.len_,E u,one p,ay,aY v,aA,aF,Y]
       ·rw [G] at K;cases K
      ·rcases M with ⟨q,G,_⟩ | ⟨G,V,rfl⟩
       ·rw [G] at K;cases K
       ·simp only [Builtin.len_,E u,one p,ay,aY v,aA,aF];rfl
     ·cases q
    ·cases q
   ·cases q
  ·rename_i zz N jj n _;simp only [VRs,VR] at g;obtain ⟨_,_,p,M,rfl⟩:=g;split at q
   ·rename_i t r u;split at q
    ·rename_i v;refine j rfl (λw=>?_) q;rcases M with ⟨q,cp,off,G,_,_,rfl⟩ | ⟨_,⟨rfl,_⟩,V,rfl⟩
     ·simp only [Builtin.len_,E u,one p,ay,aY v,aA,aF]
     ·simp only [Builtin.len_,E u,one p,ay,aY v,aA,aF]
    ·cases q
   ·cases q
  ·simp only [VRs] at g;obtain ⟨X,_,p,_,rfl⟩:=g;split at q
   ·rename_i t r u;split at q
    ·rename_i v;refine j rfl (λw=>?_) q;simp only [Builtin.len_,E u,one p,ay,aY v,aA,aF]
    ·cases q
   ·cases q
  ·cases q
 ·split at q
  ·rename_i zz N jj W m;simp only [VRs,VR] at g;obtain ⟨_,_,p,M,rfl⟩:=g;split at q
   ·rename_i t r u;split at q
    ·rename_i v;refine C rfl (λw=>?_) q;rcases M with ⟨q,cp,off,G,⟨_,hc⟩,_,rfl⟩ | ⟨_,⟨_,hc⟩,V,rfl⟩
     ·have:=hc m rfl;subst this;simp only [Builtin.cap_,E u,one p,ay,aY v,aA,aF]
     ·have:=hc m rfl;subst this;simp only [Builtin.cap_,E u,one p,ay,aY v,aA,aF]
    ·cases q
   ·cases q
  ·rename_i N Z W m;simp only [VRs,VR] at g;obtain ⟨_,_,p,⟨qq,cp,G,hc,_,rfl⟩,rfl⟩:=g;split at q
   ·rename_i t r u;split at q
    ·rename_i v;refine C rfl (λw=>?_) q;have:=hc m rfl;subst this;simp only [Builtin.cap_,E u,one p,ay,aY v,aA,aF]
    ·cases q
   ·cases q
  ·simp only [VRs,VR] at g;obtain ⟨_,_,p,rfl,rfl⟩:=g;split at q
   ·rename_i t r u;split at q
    ·rename_i v;refine C rfl (λw=>?_) q;simp only [Builtin.cap_,E u,one p,ay,aY v,aA,aF];rfl
    ·cases q
   ·cases q
  ·cases q
 ·split at q
  ·rename_i k x k' y;split at q
   ·rename_i I;have I:=lB I;subst I;simp only [VRs,VR] at g;obtain ⟨_,_,p,rfl,_,_,rfl,rfl,rfl⟩:=g;refine ⟨_,q,.val (x:=.int k (cond (decide (y<x)) y x)) ?_ (by simp [VR])⟩;simp only [execOp,R];rw [B w];simp only [builtin,ay,Builtin.min_,p,List.foldlM,Builtin.min2,aF,aA];by_cases L:y<x<;>simp [L]
   ·cases q
  ·cases q
 ·split at q
  ·rename_i k x k' y;split at q
   ·rename_i I;have I:=lB I;subst I;simp only [VRs,VR] at g;obtain ⟨_,_,p,rfl,_,_,rfl,rfl,rfl⟩:=g;refine ⟨_,q,.val (x:=.int k (cond (decide (y>x)) y x)) ?_ (by simp [VR])⟩;simp only [execOp,R];rw [B w];simp only [builtin,ay,Builtin.max_,p,List.foldlM,Builtin.max2,aF,aA];by_cases L:y>x<;>simp [L]
   ·cases q
  ·cases q
 ·cases q
theorem W9 {op:UnOp} {x:V} {X:Value} {c:V->Option α} (h:unK op x c=some z) (hx:VR ι x X) (w:World):
  ∃v R,c v=some z/\VR ι v R/\(Op.unary op X).run P w=.ok R w:=by
 unfold unK at h;split at h
 ·simp only [VR] at hx;subst hx;exact ⟨_,_,h,rfl,rfl⟩
 ·simp only [VR] at hx;subst hx;exact ⟨_,_,h,rfl,rfl⟩
 ·cases h
theorem Qy {x:Operand} {k:Bool} (t:o.op=.next x k) (B:TR ι s.T a.tmps) (E:WR ι s.H s.nb w) (h:effK P (opd s.T) s.H f (.next x k) c=some z):
  ∃e,c e=some z/\gR P ι f o a w e:=by
 simp only [effK] at h;split at h
 case h_2=>cases h
 rename_i b hx;have n:=bu B hx;simp only [VR] at n;obtain ⟨r,p,m⟩:=n;split at h
 case h_2=>cases h
 rename_i l pos D;obtain ⟨F,ob,y,v,q⟩:=(E.blk b _ D (by simp)).real (by simp);rw [p] at y;cases y;simp only [BR] at q;subst q;have i:(ByteArray.mk l.toArray).size=l.length:=rfl;have d:(getObj r.r).run P w=.ok (.stringIter ⟨l.toArray⟩ pos) w:=by simp [getObj,Sem.run,v]
 cases hc:Nat.blt pos l.length with
 | false=>
  rw [hc] at h;have A:¬pos<l.length:=λg=>by rw [show Nat.blt pos l.length=true from cP g] at hc;cases hc
  refine ⟨_,h,.val (x:=.tuple #[.bool false]) ?_ (by simp [VR,VRs])⟩;simp only [execOp,t,m,Instr.next,ay,d,aA,i,A,aE,aF]
 | true=>
  rw [hc] at h;have g:pos<l.length:=aL hc;refine ⟨_,h,?_⟩;unfold gR;have j:∀ob,(Go.setObj r.r ob).run P w=.ok () (setObj w r.r ob):=by
   intro ob;simp [Go.setObj,Sem.run,v,setObj]
  refine ⟨r,p,λ_=>⟨.stringIter ⟨l.toArray⟩ (pos+(dec l pos).2),.value (.tuple #[.bool true,.int .i64 pos,.int .i32 (dec l pos).1]),?_,rfl,.value _ λu C=>by cases C;simp [VR,VRs]⟩⟩;simp only [execOp,t,m,Instr.next,ay,d,aA,i,g,aM,j,aF,dec,goInt]
theorem HE {t:List Lf} (x:den t):∀n,(List.replicate n x).flatMap (vals t)=(List.replicate n (vals t x)).flatten
 | 0=>rfl
 | n+1=>by simp [uq,pV,HE x n]
theorem MN {l:List Value}:∀n:Nat,(List.replicate n l).flatten.length=n*l.length
 | 0=>by simp
 | n+1=>by rw [uq,List.flatten_cons,aO,MN n,iq];omega
theorem O6 {l:List Value}:∀(n j:Nat),j<n*l.length->(List.replicate n l).flatten[j]?=l[j%l.length]?
 | 0,j,h=>by simp at h
 | n+1,j,h=>by
  simp only [uq,List.flatten_cons];by_cases a:j<l.length
  ·rw [oe a,rG a]
  ·rw [ra (by omega),O6 n _ (by rw [iq] at h;omega),<-Nat.mod_eq_sub_mod (by omega)]
theorem BO {t:TypeId} {x y:Operand} (ho:o.op=.makeSlice t x y) (O:TR ι s.T a.tmps) (h:effK P (opd s.T) s.H f (.makeSlice t x y) c=some z):
  ∃e,c e=some z/\gR P ι f o a w e:=by
 simp only [effK] at h;obtain ⟨u,E,N⟩:=ax h;obtain ⟨v,D,b⟩:=ax N;clear h N;have E:=bu O E;have D:=bu O D;split at b
 case h_2=>cases b
 rename_i e W;split at b
 case h_2=>cases b
 rename_i k1 n k2 m _ _;simp only [VR] at E D;obtain ⟨zv,F,b⟩:=ax b;split at b
 case h_2=>cases b
 rename_i tr p _ l;split at b
 case h_2=>cases b
 rename_i L;simp only [az,jG] at L;obtain ⟨Q,e2,M,G⟩:=L;have M:=aL M;have G:=aL G;obtain ⟨Z,J,b⟩:=ax b;obtain ⟨hc,b⟩:=dZ b;simp only [az,cg] at hc;obtain ⟨X,S,c2⟩:=hc;obtain ⟨zc,i,K,V,h3,_⟩:=wP ι F;rw [l] at K;cases K;have g:=nZ h3;rw [wU J] at g;have g:=(oL ι tr Z _).1 g;have C:p.size=P.cellsOf e:=by unfold Program.cellsOf;rw [l];rfl
 have U:m=(m.toNat:Int):=by omega
 have r:=run_make (P:=P) w t e p zc W l V k1 k2 n m X S (by
  rw [U,<-Ig];have:p.bytes*m.toNat<=1048576*67108864:=zy G (by omega);omega) (by omega)
 refine ⟨_,b,.mkR (d:=w.drawn) (q:=(Rf.of w.heap.size (n.toNat) (m.toNat))) (x:=.slice (some ⟨w.heap.size,0,none⟩) n.toNat m.toNat) (ob:=.cells (madeCells zc.cells (m.toNat*p.size)) e) ?_ rfl rfl ?_ ?_⟩
 ·simp only [execOp,ho,E,D,ay,r,aA,aF]
 ·have I:(madeCells zc.cells (m.toNat*p.size)).size=m.toNat*p.size:=size_madeCells _ _;refine ⟨_,e,_,rfl,by simp,by simp only;omega,by rw [I,C,Q];simp,?_,.inr (tX _)⟩;simp only [cU];rw [HE,List.length_replicate,<-g];apply zP;intro j;have k:zc.cells.toList.length=tr.length:=by rw [g,g9]
  have B:zc.cells.size=tr.length:=by simpa using k
  have Y:n.toNat*tr.length<=m.toNat*tr.length:=o8 _ (by omega);by_cases R:j<n.toNat*tr.length
  ·rw [qf R,O6 n.toNat j (by rw [k];exact R),k];have A:j%tr.length<zc.cells.size:=by rw [B];exact sc _ (by omega)
   simp only [madeCells,C,<-Q,B];rw [qJ,Array.getElem?_map,Array.getElem?_range];simp [show j<m.toNat*tr.length by omega,A]
  ·rw [ga (by rw [cV];omega),ga (by rw [MN,k];omega)]
 ·simp only [VR];exact .inl ⟨_,dN _ _ _,rfl⟩
theorem YB {op:BinOp} {t:TypeId} {x y:Operand} {u v:V} {r:Bool} {X Y:Value} (h:niK P op t x y u v=some r) (hx:VR ι u X) (hy:VR ι v Y) (w:World):
  (eqGuard op t x y X Y).run P w=.ok () w/\(binOp op t X Y).run P w=.ok (.bool r) w:=by
 unfold niK at h;split at h
 case h_2=>cases h
 simp only [VR] at hx hy;subst hx hy;split at h
 case h_2=>cases h
 rename_i hc;split at h
 case h_2=>cases h
 rename_i f e;have b:∀o:BinOp,o=.eql\/o=.neq->(eqGuard o t x y .nilIface .nilIface).run P w=.ok () w:=by
  intro o d;have a:(∃v,x=.const v)\/∃v,y=.const v:=by
   rw [ip] at hc;refine hc.imp (λh=>?_) (λh=>?_)
   ·cases x<;>simp_all [HW]
   ·cases y<;>simp_all [HW]
  rcases a with ⟨v,rfl⟩ | ⟨v,rfl⟩<;>rcases d with rfl | rfl<;>simp [eqGuard]
 have c:(Op.equal t .nilIface .nilIface).run P w=.ok true w:=by rw [eY,Op.equalIn];simp [aY e]
 split at h
 ·simp only [av] at h;subst h;exact ⟨b _ (.inl rfl),by simp [binOp,c]⟩
 ·simp only [av] at h;subst h;exact ⟨b _ (.inr rfl),by simp [binOp,c]⟩
 ·cases h
theorem lK {t e:TypeId} {c:TypeInfo} (j:P.underlying t=some (.slice e)) (hi:P.info? e=some c) {n cp:Nat} {a:Option Addr} {k k':IntKind} {h m:Int} {H M:Nat} (f:bx n m=some M) (d:bx M h=some H) (p:n<=cp) (w:World):
  (Instr.sliceAt t (.slice a n cp) none (some (.int k h)) (some (.int k' m))).run P w=.ok (.slice a H M) w:=by
 obtain ⟨m0,m1,rfl⟩:=mc f;obtain ⟨i,b,rfl⟩:=mc d;have g:=run_sliceBound (P:=P) w k' m cp .slice3Acap m0 (by omega);have l:=run_sliceBound (P:=P) w k h m.toNat .slice3B i b;simp only [Instr.sliceAt,Instr.slice,ay,aY j,aA,Instr.sliceBounds,aM,g,l,aF,gn hi,ub,CC];split
 ·rfl
 ·cases a with
  | none=>rfl
  | some q=>obtain ⟨r,o,x⟩:=q;simp [Addr.add]
theorem Ks {t:TypeId} {x mx:Operand} {lo hi:Option Operand} (J:o.op=.slice t x lo hi (some mx)) (O:TR ι s.T a.tmps) (X:WR ι s.H s.nb w) (h:effK P (opd s.T) s.H f (.slice t x lo hi (some mx)) c=some z):
  ∃e,c e=some z/\gR P ι f o a w e:=by
 simp only [effK,vO] at h;split at h
 case h_2=>cases h
 rename_i hh;obtain ⟨v,hx,d⟩:=ax h;clear h;have A:=bu O hx;clear hx;split at d
 case h_2=>cases d
 rename_i k1 Y k2 m1 L N;have D:=bu O L;have E:=bu O N;simp only [VR] at D E;split at d
 case h_2=>cases d
 rename_i e F;split at d
 case h_2=>cases d
 rename_i hp;obtain ⟨ti,k⟩:=cf hp;split at d
 ·rename_i b;split at d
  case h_2=>cases d
  rename_i tr l W;split at d
  case h_2=>cases d
  obtain ⟨M,u,G⟩:=ax d;obtain ⟨H,p,C⟩:=ax G;obtain ⟨m0,m2,V⟩:=mc u;obtain ⟨R,Q,U⟩:=mc p;simp only [VR] at A;rcases jQ X W with ⟨q,cs,e',fr,B,r2,r4,r5,_,_,_⟩ | ⟨B,rfl⟩
  ·rcases A with ⟨q',g,y⟩ | ⟨g,_⟩
   ·rw [g] at B;cases B;refine ⟨_,C,.val (x:=.slice (some ⟨q.r,q.o,none⟩) H M) ?_ ?_⟩
    ·simp only [execOp,J,y,D,E,ay,jl,fg];rw [<-r4,lK F k u p (by omega) w];rfl
    ·simp only [VR];exact .inl ⟨q,_,_,g,⟨by omega,sI⟩,λ_=>by omega,rfl⟩
   ·rw [g] at B;cases B
  ·rcases A with ⟨q,g,y⟩ | ⟨g,I,y⟩
   ·rw [g] at B;cases B
   ·simp only [bh] at m2;have i:M=0:=by omega
    have m:H=0:=by omega
    subst i m;refine ⟨_,C,.val (x:=.slice I 0 0) ?_ (by unfold VR;exact .inr ⟨g,⟨rfl,sI⟩,I,rfl⟩)⟩;simp only [execOp,J,y,D,E,ay,jl,fg];rw [lK F k (n:=0) (M:=0) u p (by omega) w];rfl
 ·rename_i zz b j n _;obtain ⟨M,u,G⟩:=ax d;obtain ⟨H,p,C⟩:=ax G;obtain ⟨m0,m2,V⟩:=mc u;obtain ⟨R,Q,U⟩:=mc p;simp only [VR] at A;rcases A with ⟨q,cp,off,g,⟨K,_⟩,Z,y⟩ | ⟨g,⟨K,_⟩,I,y⟩
  ·refine ⟨_,C,.val (x:=.slice (some ⟨q.r,off,none⟩) H M) ?_ ?_⟩
   ·simp only [execOp,J,y,D,E,ay,jl,fg];rw [lK F k u p K w];rfl
   ·simp only [VR];exact .inl ⟨q,_,_,g,⟨by omega,sI⟩,λS=>Z (by omega),rfl⟩
  ·subst K;have i:M=0:=by omega
   have m:H=0:=by omega
   subst i m;refine ⟨_,C,.val (x:=.slice I 0 0) ?_ (by unfold VR;exact .inr ⟨g,⟨rfl,sI⟩,I,rfl⟩)⟩;simp only [execOp,J,y,D,E,ay,jl,fg];rw [lK F k (n:=0) (M:=0) u p (by omega) w];rfl
 ·obtain ⟨M,u,G⟩:=ax d;obtain ⟨H,p,C⟩:=ax G;obtain ⟨m0,m2,V⟩:=mc u;obtain ⟨R,Q,U⟩:=mc p;simp only [VR] at A;have i:M=0:=by omega
  have m:H=0:=by omega
  subst i m;refine ⟨_,C,.val (x:=.slice none 0 0) ?_ (by simp only [VR])⟩;simp only [execOp,J,A,D,E,ay,jl,fg];rw [lK F k (n:=0) (M:=0) u p (by omega) w];rfl
 ·cases d
theorem X9 {op:BinOp} {t:TypeId} {u v:V} {r:Bool} {n:Nat} {rd:List Nat} {X Y:Value} {H:List (Nat×Blk)} {nb:Nat} (h:slN P op t u v=some r) (a:slL H u=some (n,rd)) (B:0<n) (y:WR ι H nb w) (hx:VR ι u X) (hy:VR ι v Y) (p q:Operand):
  (eqGuard op t p q X Y).run P w=.ok () w/\(binOp op t X Y).run P w=.ok (.bool r) w:=by
 unfold slN at h;split at h
 case h_2=>cases h
 simp only [VR] at hy;subst hy;have b:∀(A:Addr) (n c:Nat),X=.slice (some A) n c->P.underlying t=(P.underlying t)->∀e,P.underlying t=some (.slice e)->
   ((eqGuard .eql t p q X (.slice none 0 0)).run P w=.ok () w/\(binOp .eql t X (.slice none 0 0)).run P w=.ok (.bool false) w)/\
   ((eqGuard .neq t p q X (.slice none 0 0)).run P w=.ok () w/\(binOp .neq t X (.slice none 0 0)).run P w=.ok (.bool (!false)) w):=by
  rintro A n c rfl _ e k;exact pS p q (.inl (by simp)) (.inl (by simp)) (by simp) (by rw [eY,Op.equalIn];simp [aY k])
 have d:∀(A:Addr) (n c:Nat),X=.slice (some A) n c->slT P op t=some r->(eqGuard op t p q X (.slice none 0 0)).run P w=.ok () w/\(binOp op t X (.slice none 0 0)).run P w=.ok (.bool r) w:=by
  intro A n c x h;unfold slT at h;split at h
  case h_2=>cases h
  rename_i e k;obtain ⟨m1,m2⟩:=b A n c x rfl e k;split at h
  ·simp only [av] at h;subst h;exact m1
  ·simp only [av] at h;subst h;exact m2
  ·cases h
 split at h
 ·rename_i c;simp only [slL] at a;split at a
  case h_2=>cases a
  rename_i tr l o;simp only [av,bM] at a;obtain ⟨rfl,_⟩:=a;simp only [VR] at hx;rcases jQ y o with ⟨I,J,L,fr,i,E,r4,_⟩ | ⟨i,rfl⟩
  ·rcases hx with ⟨s,f,g⟩ | ⟨f,_⟩
   ·exact d _ _ _ g h
   ·rw [f] at i;cases i
  ·simp at B
 ·rename_i z c j m F;simp only [slL,av,bM] at a;obtain ⟨rfl,_⟩:=a;simp only [VR] at hx;rcases hx with ⟨s,K,G,f,g,D,C⟩ | ⟨f,⟨g,_⟩,_⟩
  ·exact d _ _ _ C h
  ·omega
 ·cases h
theorem Gf {t:TypeId} {x:Option Operand} (b:o.op=.makeMap t x) (h:effK P (opd s.T) s.H f (.makeMap t x) c=some z):∃e,c e=some z/\gR P ι f o a w e:=by
 simp only [effK] at h;split at h
 case h_2=>cases h
 split at h
 case h_2=>cases h
 refine ⟨_,h,.mk (x:=.map (some w.heap.size)) (ob:=.map #[] 0) ?_ ⟨#[],0,rfl,rfl⟩ (by simp only [VR];exact ⟨_,dN _ _ _,rfl⟩)⟩;simp only [execOp,b,jl,ay];rfl
theorem RZ {H:List (Nat×Blk)} {nb b:Nat} {w:World} (g:WR ι H nb w) {k:IntKind} {l:List (Int×Nat)} (i:look H b=some (.mp k l)):
  ∃q c a,ι b=some (some q)/\w.heap[q.r]?=some (.map c a)/\c.toList.map (λe=>(e.key,e.val))=l.map λp=>(Value.int k p.1,fnV p.2 #[]):=by
 obtain ⟨q,o,d,f,c,a,rfl,h⟩:=(g.blk b _ i (by simp)).real (by simp);exact ⟨q,c,a,d,f,h⟩
theorem OE {α:Type} {k:IntKind} {n:Int} {c:Nat->Option α} {z:α}:∀(b:List MapEntry) (l:List (Int×Nat)) (i:Nat),b.map (λe=>(e.key,e.val))=l.map (λp=>(Value.int k p.1,fnV p.2 #[]))->mapK l n c=some z->
  ∃g j,c g=some z/\Instr.findNow (.int k) (.int k n) b i=some (some (j,fnV g #[]))
 | [],[],_,_,h=>by cases h
 | [],_::_,_,a,_=>by simp at a
 | _::_,[],_,a,_=>by simp at a
 | e::b,(m,g)::l,i,a,h=>by
  simp only [ge,DC,bM] at a;obtain ⟨⟨f,r⟩,s⟩:=a;simp only [mapK] at h;cases d:(n==m) with
  | true=>
   rw [d] at h;exact ⟨g,i,h,by simp only [Instr.findNow,f,Instr.sameNow,aM,d,r]⟩
  | false=>
   rw [d] at h;obtain ⟨q,j,t,o⟩:=OE b l (i+1) s h;exact ⟨q,j,t,by simp only [Instr.findNow,f,Instr.sameNow,aM,d];exact o⟩
theorem JW {t:TypeId} {m x:Operand} {ok:Bool} (O:o.op=.lookup t m x ok) (u:TR ι s.T a.tmps) (K:WR ι s.H s.nb w) (h:effK P (opd s.T) s.H f (.lookup t m x ok) c=some z):
  ∃e,c e=some z/\gR P ι f o a w e:=by
 simp only [effK] at h;split at h
 case h_2=>cases h
 rename_i b E;split at h
 case h_2=>cases h
 rename_i k n hx;split at h
 case h_2=>cases h
 rename_i kt R J;split at h
 case h_2=>cases h
 rename_i k2 p;split at h
 case h_2=>cases h
 rename_i k1 l F;split at h
 case h_2=>cases h
 rename_i d;simp only [az] at d;have N:=lB d.1;have L:=lB d.2;subst N L;have y:=bu u E;have r:=bu u hx;simp only [VR] at y r;obtain ⟨q,D,I⟩:=y;obtain ⟨Q,M,i,v,A,C⟩:=RZ K F;rw [D] at v;cases v;obtain ⟨g,j,B,G⟩:=OE M.toList l 0 C h;refine ⟨_,B,.val (x:=fnV g #[]) ?_ (by simp only [VR];exact ⟨#[],rfl,by simp [VRs]⟩)⟩;simp only [execOp,O,I,r,ay,Instr.lookup,aY J,aA,MapKept.run_getObj_map A,aF,
  MapKept.run_checkKey (k:=.int k2 n) p (by simp [MapKept.IsKey]),MapKept.run_findKey p G]
 rfl
theorem Kx {t:TypeId} {m x y:Operand} (ho:o.op=.insert t m x y) (G:TR ι s.T a.tmps) (Y:WR ι s.H s.nb w) (h:effK P (opd s.T) s.H f (.insert t m x y) c=some z):
  ∃e,c e=some z/\gR P ι f o a w e:=by
 simp only [effK] at h;split at h
 case h_2=>cases h
 rename_i b U;split at h
 case h_2=>cases h
 rename_i k n g hx hy;split at h
 case h_2=>cases h
 rename_i kt et X;split at h
 case h_2=>cases h
 rename_i k2 M;split at h
 case h_2=>cases h
 rename_i k1 l V;split at h
 case h_2=>cases h
 rename_i B;simp only [az] at B;obtain ⟨E,F,C⟩:=B;have e1:=lB E;have Z:=lB F;subst e1 Z;have S:=bu G U;have N:=bu G hx;have Q:=bu G hy;simp only [VR] at S N Q;obtain ⟨q,L,W⟩:=S;obtain ⟨cs,h8,O⟩:=Q;simp only [VRs] at O;have I:cs=#[]:=by
  apply lP;simpa using O
 subst I;obtain ⟨q',D,d,R,J,K⟩:=RZ Y V;rw [L] at R;cases R;have A:∀e∈D.toList,∃p∈l,e.key=.int k2 p.1:=by
  intro e u;have:(e.key,e.val)∈l.map λp=>(Value.int k2 p.1,fnV p.2 #[]):=by rw [<-K];exact eG.2 ⟨e,u,rfl⟩
  obtain ⟨p,hp,i⟩:=eG.1 this;simp only [bM] at i;exact ⟨p,hp,i.1.symm⟩
 have r:MapKept.IsKey (.int k2) (.int k2 n):=by simp [MapKept.IsKey]
 have v:Instr.findNow (.int k2) (.int k2 n) D.toList 0=some none:=by
  rcases MapKept.findNow_spec r D.toList 0 (λe u=>by obtain ⟨p,_,hp⟩:=A e u;rw [hp];simp [MapKept.IsKey]) with ⟨h,_⟩ | ⟨j,e,_,hj,u⟩
  ·exact h
  ·exfalso;obtain ⟨p,hp,i⟩:=A e (fc hj);rw [i] at u;have:=(bW.1 C) p hp;simp only [Value.int.injEq,kP] at u;simp [u] at this
 refine ⟨_,h,?_⟩;unfold gR;refine ⟨q,L,λ_=>⟨.map (D.push { key:=.int k2 n,val:=fnV g #[],born:=d }) (d+1),.skip,?_,⟨_,_,rfl,?_⟩,.skip rfl⟩⟩
 ·simp only [execOp,ho,W,N,h8,ay,Instr.mapUpdate,aY X,aA,MapKept.run_getObj_map J,MapKept.run_checkKey (k:=.int k2 n) M r,MapKept.run_findKey M v,MapKept.run_setObj_map _ J,aF];rfl
 ·rw [Array.toList_push,FD,FD,K];rfl
theorem Og (k:TR ι s.T a.tmps) (C:WR ι s.H s.nb w) (Z:ι f=none) (h:effK P (opd s.T) s.H f o.op c=some z):∃e,c e=some z/\gR P ι f o a w e:=by
 cases j:o.op with
 | move x=>
  rw [j] at h;simp only [effK] at h;obtain ⟨v,p,h⟩:=ax h;exact ⟨_,h,.val (by simp only [execOp,j,aF]) (bu k p)⟩
 | assign x=>
  rw [j] at h;simp only [effK] at h;obtain ⟨v,p,h⟩:=ax h;exact ⟨_,h,.val (by simp only [execOp,j,aF]) (bu k p)⟩
 | pick q x y=>
  rw [j] at h;simp only [effK] at h;split at h
  ·rename_i t L;have p:=bu k L;simp only [VR] at p;cases t
   ·simp only [af] at h;obtain ⟨v,A,h⟩:=ax h;exact ⟨_,h,.val (x:=a.eval y) (by simp [execOp,j,p,asBool]) (bu k A)⟩
   ·simp only [ah] at h;obtain ⟨v,A,h⟩:=ax h;exact ⟨_,h,.val (x:=a.eval x) (by simp [execOp,j,p,asBool]) (bu k A)⟩
  ·cases h
 | alloc t=>rw [j] at h;exact NN j h
 | makeMap t x=>rw [j] at h;exact Gf j h
 | insert t m x y=>rw [j] at h;exact Kx j k C h
 | lookup t m x ok=>rw [j] at h;exact JW j k C h
 | box t x=>rw [j] at h;exact To j k Z h
 | build t ps=>rw [j] at h;exact OJ j k h
 | buildSlice t n ps=>rw [j] at h;exact zC j k Z h
 | load t x=>rw [j] at h;exact Rt j k C h
 | makeSlice t x y=>rw [j] at h;exact BO j k h
 | store t x y=>rw [j] at h;exact LS j k C h
 | nilCheck x=>
  rw [j] at h;simp only [effK] at h;split at h
  ·rename_i b off hx;have p:=bu k hx;have A:=p;simp only [VR] at p;obtain ⟨r,h5,B⟩:=p;exact ⟨_,h,.val (x:=a.eval x) (by simp [execOp,j,B]) A⟩
  ·rename_i zz b jj off hx;have p:=bu k hx;have A:=p;simp only [VR] at p;obtain ⟨r,h5,B⟩:=p;exact ⟨_,h,.val (x:=a.eval x) (by simp [execOp,j,B]) A⟩
  ·rename_i g l hx;have p:=bu k hx;have A:=p;simp only [VR] at p;obtain ⟨Y,B,_⟩:=p;obtain ⟨g',b',c',h7⟩:=zL g Y;exact ⟨_,h,.val (x:=a.eval x) (by simp [execOp,j,B,h7]) A⟩
  ·rename_i b off n m hx;have p:=bu k hx;have A:=p;simp only [VR] at p;obtain ⟨r,cp,_,_,_,B⟩:=p;exact ⟨_,h,.val (x:=a.eval x) (by simp [execOp,j,B]) A⟩
  ·rename_i t v hx;have p:=bu k hx;have A:=p;simp only [VR] at p;obtain ⟨y,B,_⟩:=p;exact ⟨_,h,.val (x:=a.eval x) (by simp [execOp,j,B]) A⟩
  ·cases h
 | binOp op t x y yt=>
  rw [j] at h;simp only [effK] at h;obtain ⟨u,I,h⟩:=ax h;obtain ⟨v,p,h⟩:=ax h;split at h
  ·rename_i r V;have hx:=bu k I;have hy:=bu k p;obtain ⟨J,K⟩:=YB V hx hy w;exact ⟨_,h,.val (x:=.bool r) (by simp only [execOp,j,ay,J,K,aA,aF]) (by simp [VR])⟩
  split at h
  ·rename_i r V;split at h
   case h_2=>cases h
   rename_i m rd F;obtain ⟨hm,h⟩:=dZ h;obtain ⟨J,K⟩:=X9 V F (aL hm) C (bu k I) (bu k p) x y;exact ⟨_,h,.val (x:=.bool r) (by simp only [execOp,j,ay,J,K,aA,aF]) (by simp [VR])⟩
  obtain ⟨R,X,Q,S,J,K⟩:=VC h (bu k I) (bu k p) x y w;exact ⟨_,Q,.val (x:=X) (by simp only [execOp,j,ay,J,K,aA,aF]) S⟩
 | unOp op t x=>
  rw [j] at h;simp only [effK] at h;obtain ⟨u,I,h⟩:=ax h;obtain ⟨R,X,Q,S,J⟩:=W9 (P:=P) h (bu k I) w;exact ⟨_,Q,.val (x:=X) (by simp only [execOp,j,ay,J,aA,aF]) S⟩
 | convert sr d x=>rw [j] at h;exact FY j k C h
 | next x str=>rw [j] at h;exact Qy j k C h
 | makeInterface t x=>
  rw [j] at h;simp only [effK] at h;obtain ⟨u,I,h⟩:=ax h;have p:=bu k I;split at h
  ·cases h
  ·rename_i d O N;refine ⟨_,h,.val (x:=.iface t (a.eval x)) ?_ (by simp only [VR];exact ⟨_,rfl,p⟩)⟩;simp only [execOp,j,Instr.makeInterface,ay,aY N,aA];cases d<;>first | rfl | exact absurd rfl (O _)
  ·cases h
 | makeFunc fn first cap=>
  rw [j] at h;simp only [effK] at h;split at h
  ·rename_i g E;split at h
   case h_2=>cases h
   rename_i hb;obtain ⟨l,F,h⟩:=ax h;have G:=xG k F;have D:first=#[]:=by apply lP;simpa using E
   refine ⟨_,h,.val (x:=.func (.func g) #[] (cap.map a.eval)) ?_ (by simp only [VR];exact ⟨_,(FV hb _).symm,by simpa using G⟩)⟩;simp only [execOp,j,Instr.makeFunc,D,Ir,ay,aF,aA]
  ·rename_i g _ _ E;split at h
   ·rename_i M;obtain ⟨l,F,h⟩:=ax h;have G:=xG k F;have hcap':cap=#[]:=by apply lP;simpa using M
    refine ⟨_,h,.val (x:=.func (.func g) (first.map a.eval) #[]) ?_ (by simp only [VR];exact ⟨_,(RS g _).symm,by simpa using G⟩)⟩;simp only [execOp,j,Instr.makeFunc,hcap',Ir,ay,aF,aA]
   ·cases h
  ·cases h
 | slice t x lo hi mx=>
  rw [j] at h;cases mx with
  | none=>exact M5 j k C h
  | some m=>exact Ks j k C h
 | fieldAddr t x i=>rw [j] at h;exact A3 j k h
 | field t x i=>rw [j] at h;exact Na j k h
 | indexAddr t x i=>rw [j] at h;exact CH j k C h
 | index t x i=>rw [j] at h;exact Oo j k h
 | range t x=>rw [j] at h;exact Nv j k h
 | extract x i=>
  rw [j] at h;simp only [effK] at h;split at h
  ·rename_i l hx;obtain ⟨v,p,h⟩:=ax h;have F:=bu k hx;simp only [VR] at F;obtain ⟨Y,B,W⟩:=F;obtain ⟨y,hy,U⟩:=W.get p;have hy':Y[i]?=some y:=by simpa using hy
   exact ⟨_,h,.val (x:=y) (by simp [execOp,j,B,Instr.extract,hy']) U⟩
  ·cases h
 | typeAssert x xt at_ ok=>
  rw [j] at h;simp only [effK] at h;split at h
  case h_2=>cases h
  rename_i t v hx;have p:=bu k hx;simp only [VR] at p;obtain ⟨y,B,hy⟩:=p;split at h
  ·cases h
  ·rename_i d O N;split at h
   case h_2=>cases h
   rename_i L;have L:=bB L;subst L;cases ok with
   | true=>
    refine ⟨_,h,.val (x:=.tuple #[y,.bool true]) ?_ (by simp only [VR,VRs];exact ⟨_,rfl,y,[.bool true],rfl,hy,_,[],rfl,rfl,rfl⟩)⟩;simp only [execOp,j,B,Instr.typeAssert,ay,aY N,aA];cases d<;>first | simp | exact absurd rfl (O _)
   | false=>
    refine ⟨_,h,.val (x:=y) ?_ hy⟩;simp only [execOp,j,B,Instr.typeAssert,ay,aY N,aA];cases d<;>first | simp | exact absurd rfl (O _)
  ·cases h
 | call cl=>rw [j] at h;exact QY j k C h
 | _=>rw [j] at h;simp [effK] at h
end ops
end Go.Abs
