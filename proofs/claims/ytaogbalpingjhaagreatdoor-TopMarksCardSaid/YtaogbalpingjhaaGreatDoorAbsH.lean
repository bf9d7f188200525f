
/- The abstract effect of an operation is what the model's own operation does: the operations that make no memory; all of them together.
   Conditions: none; generic over the program. -/
import Derived.Test.YtaogbalpingjhaaGreatDoorAbsG
import Derived.Laws.BytesArg
import Derived.Laws.BytesString
import Derived.Lib.ConvBytes
import Derived.Laws.MakeOwn
import Derived.Deep.AppendSrc
import Derived.MapKept
set_option linter.unusedSimpArgs false
set_option linter.unusedVariables false
namespace Go.Abs
variable {P:Program}
section ops
variable {α:Type} {ι:Inj} {s:St} {a:Act} {w:World} {f:Nat} {o:Oper} {c:Eff->Option α} {z:α}
theorem tu {t:TypeId} {a:Array Field} {fd:Field} {i:Nat} {d:TypeInfo} (c:P.underlying t=some (.struct a)) (b:a[i]?=some fd) (hi:P.info? fd.type=some d)
  (hp:0<P.cellsOf fd.type) (r off:Nat) (w:World):(Instr.fieldAt t (.pointer (some ⟨r,off,none⟩)) i).run P w=.ok (.pointer (some ⟨r,off+fd.offset,none⟩)) w:=by
 simp only [Instr.fieldAt,aq,aN c,ax,b,Instr.sureAddr,aB,fieldPlace,eV hi,show ¬(P.cellsOf fd.type=0) by omega,aC,kW]
theorem yh {t:TypeId} {x:Operand} {i:Nat} (v:o.op=.fieldAddr t x i) (u:TR ι s.T a.tmps) (h:effK P (opd s.T) s.H f (.fieldAddr t x i) c=some z):
  ∃e,c e=some z/\fw P ι f o a w e:=by
 simp only [effK] at h;split at h
 ·rename_i b off hx;split at h
  ·rename_i y p;split at h
   ·rename_i fd n;split at h
    ·rename_i hp;obtain ⟨A,g⟩:=bz hp;have k:=aZ u hx;simp only [VR] at k;obtain ⟨r,l,m⟩:=k;have d:=tu p (by simpa using n) g (aD hp) r.r off w;exact ⟨_,h,.val (x:=.pointer (some ⟨r.r,off+fd.offset,none⟩)) (by simp only [execOp,v,m,aq,d,ax,aB]) (by simp only [VR,nu];exact ⟨r,l,rfl⟩)⟩
    ·cases h
   ·cases h
  ·cases h
 ·rename_i q b j off hx;split at h
  ·rename_i y p;split at h
   ·rename_i fd n;split at h
    ·rename_i hp;obtain ⟨A,g⟩:=bz hp;have k:=aZ u hx;simp only [VR] at k;obtain ⟨r,l,m⟩:=k;have d:=tu p (by simpa using n) g (aD hp) r.r (r.o+(j*q+off)) w;exact ⟨_,h,.val (x:=.pointer (some ⟨r.r,r.o+(j*q+off)+fd.offset,none⟩)) (by simp only [execOp,v,m,aq,d,ax,aB]) (by simp only [VR,nu];exact ⟨r,l,by rw [gG,gG]⟩)⟩
    ·cases h
   ·cases h
  ·cases h
 ·cases h
theorem GB {t:TypeId} {x:Operand} {i:Nat} (u:o.op=.field t x i) (B:TR ι s.T a.tmps) (h:effK P (opd s.T) s.H f (.field t x i) c=some z):
  ∃e,c e=some z/\fw P ι f o a w e:=by
 simp only [effK] at h;split at h
 ·rename_i l hx;have p:=aZ B hx;simp only [VR] at p;obtain ⟨n,q,j⟩:=p;split at h
  ·rename_i A r;split at h
   ·rename_i fd C;have hf':A[i]?=some fd:=by simpa using C
    split at h
    ·rename_i b;split at h
     ·have D:∃d,P.underlying fd.type=some d:=by
       unfold bw at b;split at b
       ·exact ⟨_,by assumption⟩
       ·exact ⟨_,by assumption⟩
       ·cases b
      obtain ⟨d',g⟩:=D;obtain ⟨F,k⟩:=lc g;refine ⟨_,h,.val (x:=.agg (n.extract fd.offset (fd.offset+P.cellsOf fd.type))) ?_ (nv (j.extract _ _))⟩;simp only [execOp,u,q,Instr.field,aq,aN r,ax,hf',asAgg,aB,part,iW g,b,aI,eV k]
     ·cases h
    ·rename_i b;split at h
     ·rename_i d' g;obtain ⟨v,E,h⟩:=ak h;obtain ⟨y,hy,m⟩:=j.get E;have hy':n[fd.offset]?=some y:=by simpa using hy
      refine ⟨_,h,.val (x:=y) ?_ m⟩;simp only [execOp,u,q,Instr.field,aq,aN r,ax,hf',asAgg,aB,part,iW g,b,bE,aC,hy']
     ·cases h
   ·cases h
  ·cases h
 ·cases h
theorem mK {t e:TypeId} {m:Nat} {d:TypeInfo} (a:P.underlying t=some (.array m e)) (hi:P.info? e=some d) (k:IntKind) {n:Int} (b:0<=n) (c:n<m) (r off:Nat) (w:World):
  (Instr.indexAt t (.pointer (some ⟨r,off,none⟩)) (.int k n)).run P w=.ok (.pointer (some ⟨r,off+n.toNat*P.cellsOf e,none⟩)) w:=by
 simp only [Instr.indexAt,asIntOf,aq,aB,ax,aN a,Instr.sureAddr,b,c,and_self,aI,eV hi,kW]
theorem jN {t e:TypeId} {m cp:Nat} {d:TypeInfo} (a:P.underlying t=some (.slice e)) (hi:P.info? e=some d) (k:IntKind) {n:Int} (b:0<=n) (c:n<m) (r off:Nat) (w:World):
  (Instr.indexAt t (.slice (some ⟨r,off,none⟩) m cp) (.int k n)).run P w=.ok (.pointer (some ⟨r,off+n.toNat*P.cellsOf e,none⟩)) w:=by
 simp only [Instr.indexAt,asIntOf,aq,aB,ax,aN a,b,c,and_self,aI,eV hi,kW]
theorem xQ {t:TypeId} {x i:Operand} (G:o.op=.indexAddr t x i) (D:TR ι s.T a.tmps) (L:WR ι s.H s.nb w) (h:effK P (opd s.T) s.H f (.indexAddr t x i) c=some z):
  ∃e,c e=some z/\fw P ι f o a w e:=by
 simp only [effK] at h;split at h
 case h_2=>cases h
 rename_i k n hi;have u:=aZ D hi;simp only [VR] at u;split at h
 ·rename_i m e E;split at h
  ·rename_i b off hx;have p:=aZ D hx;simp only [VR] at p;obtain ⟨r,v,C⟩:=p;split at h
   ·rename_i hp;obtain ⟨I,g⟩:=bz hp;obtain ⟨j,B,h⟩:=ak h;obtain ⟨g0,A,rfl⟩:=mc B;have d:=mK E g k g0 A r.r off w;exact ⟨_,h,.val (x:=.pointer (some ⟨r.r,off+n.toNat*P.cellsOf e,none⟩)) (by simp only [execOp,G,C,u,aq,d,ax,aB]) (by simp only [VR,nu,uC];exact ⟨r,v,rfl⟩)⟩
   ·cases h
  ·rename_i J b K off hx;have p:=aZ D hx;simp only [VR] at p;obtain ⟨r,v,C⟩:=p;split at h
   ·rename_i hp;obtain ⟨I,g⟩:=bz hp;obtain ⟨j,B,h⟩:=ak h;obtain ⟨g0,A,rfl⟩:=mc B;have d:=mK E g k g0 A r.r (r.o+(K*J+off)) w;exact ⟨_,h,.val (x:=.pointer (some ⟨r.r,r.o+(K*J+off)+n.toNat*P.cellsOf e,none⟩)) (by simp only [execOp,G,C,u,aq,d,ax,aB]) (by simp only [VR,nu,uC];exact ⟨r,v,by rw [gG,gG]⟩)⟩
   ·cases h
  ·cases h
 ·rename_i e E;split at h
  ·rename_i b off m cp hx;have p:=aZ D hx;simp only [VR] at p;obtain ⟨r,cap,v,_,_,C⟩:=p;split at h
   ·rename_i hp;obtain ⟨I,g⟩:=bz hp;obtain ⟨j,B,h⟩:=ak h;obtain ⟨g0,A,rfl⟩:=mc B;have d:=jN (cp:=cap) E g k g0 A r.r off w;exact ⟨_,h,.val (x:=.pointer (some ⟨r.r,off+n.toNat*P.cellsOf e,none⟩)) (by simp only [execOp,G,C,u,aq,d,ax,aB]) (by simp only [VR,nu,uC];exact ⟨r,v,rfl⟩)⟩
   ·cases h
  ·rename_i b hx;have p:=aZ D hx;simp only [VR] at p;split at h
   case h_2=>cases h
   rename_i tr l N;split at h
   case h_2=>cases h
   rename_i hp;simp only [az,gP] at hp;obtain ⟨M,hp⟩:=hp;obtain ⟨I,g⟩:=bz hp;obtain ⟨j,B,h⟩:=ak h;obtain ⟨g0,A,rfl⟩:=mc B;rcases ib L N with ⟨q,R,W,fr,F,S,O,Y,Z,V,U⟩ | ⟨F,rfl⟩
   ·rcases p with ⟨Q,v,C⟩ | ⟨v,_⟩
    ·rw [v] at F;cases F;have g1':n<(q.n:Int):=by rw [<-O];exact A
     have d:=jN (cp:=q.k) E g k g0 g1' q.r q.o w;exact ⟨_,h,.val (x:=.pointer (some ⟨q.r,q.o+n.toNat*P.cellsOf e,none⟩)) (by simp only [execOp,G,C,u,aq,d,ax,aB]) (by simp only [VR];exact ⟨q,v,by rw [cP]⟩)⟩
    ·rw [v] at F;cases F
   ·simp at A;omega
  ·rename_i J b X m _ hx;have p:=aZ D hx;simp only [VR] at p;split at h
   case h_2=>cases h
   rename_i hp;simp only [az,gP] at hp;obtain ⟨rfl,hp⟩:=hp;obtain ⟨I,g⟩:=bz hp;obtain ⟨j,B,h⟩:=ak h;obtain ⟨g0,A,rfl⟩:=mc B;rcases p with ⟨q,cp,off,v,_,y,C⟩ | ⟨_,⟨rfl,_⟩,_⟩
   ·have d:=jN (cp:=cp) E g k g0 A q.r off w;have y:=y (by omega);exact ⟨_,h,.val (x:=.pointer (some ⟨q.r,off+n.toNat*P.cellsOf e,none⟩)) (by simp only [execOp,G,C,u,aq,d,ax,aB]) (by simp only [VR,nu];exact ⟨q,v,by rw [y,fM,cP,gG]⟩)⟩
   ·omega
  ·cases h
 ·cases h
theorem g9 {t e:TypeId} {m:Nat} {c:TypeInfo} (f:P.underlying t=some (.array m e)) (hi:P.info? e=some c) (k:IntKind) {n:Int} (b:0<=n) (d:n<m) (a:Array Value) (w:World):
  (Instr.index t (.agg a) (.int k n)).run P w=(part e a (n.toNat*P.cellsOf e)).run P w:=by
 simp only [Instr.index,asIntOf,aq,aB,ax,aN f,b,d,and_self,aI,eV hi]
theorem oi {t:TypeId} {d:TypeDesc} (b:P.underlying t=some d) (c:bw P t=false) {a:Array Value} {off:Nat} {x:Value} (hx:a[off]?=some x) (w:World):
  (part t a off).run P w=.ok x w:=by
 simp only [part,aq,iW b,c,ax,bE,aC,hx,aB]
theorem sj {t:TypeId} {d:TypeDesc} (b:P.underlying t=some d) (c:bw P t=true) (a:Array Value) (off:Nat) (w:World):
  (part t a off).run P w=.ok (.agg (a.extract off (off+P.cellsOf t))) w:=by
 obtain ⟨i,hi⟩:=lc b;simp only [part,aq,iW b,c,ax,aI,eV hi,aB]
theorem sC {t:TypeId} (f:P.underlying t=some .string) {l:aa} {n:Int} {b:UInt8} (h:sx l n=some b) (k:IntKind) (w:World):
  (Instr.index t (.string ⟨l.toArray⟩) (.int k n)).run P w=.ok (.int .u8 b.toNat) w:=by
 unfold sx at h;split at h
 ·rename_i d;have e:(ByteArray.mk l.toArray)[n.toNat]?=some b:=by
   have a:n.toNat<l.length:=by
    rcases aE n.toNat l.length with c | c
    ·exact c
    ·rw [eX c] at h;cases h
   have hs:n.toNat<(ByteArray.mk l.toArray).size:=a;rw [getElem?_pos (ByteArray.mk l.toArray) n.toNat hs];rw [bG a] at h;simp only [ah] at h ⊢;exact h
  simp only [Instr.index,asIntOf,aq,aB,ax,aN f,d,aI,e]
 ·cases h
theorem He {t:TypeId} {x i:Operand} (E:o.op=.index t x i) (G:TR ι s.T a.tmps) (h:effK P (opd s.T) s.H f (.index t x i) c=some z):
  ∃e,c e=some z/\fw P ι f o a w e:=by
 simp only [effK] at h;split at h
 case h_2=>cases h
 rename_i k n hi;have d:=aZ G hi;simp only [VR] at d;split at h
 ·rename_i m e D;split at h
  ·cases h
  rename_i hp;obtain ⟨N,r⟩:=bz hp;split at h
  ·rename_i k' m' l hx;have g:=aZ G hx;simp only [VR] at g;obtain ⟨R,F⟩:=g;split at h
   ·rename_i k2 p;split at h
    ·rename_i q;have q:=be q;obtain ⟨j,B,h⟩:=ak h;obtain ⟨g0,u,rfl⟩:=mc B;obtain ⟨v,g,h⟩:=ak h;refine ⟨_,h,.val (x:=.int k' v) ?_ (by simp [VR])⟩;simp only [execOp,E,F,d,aq,g9 D r k g0 u];rw [oi p (by simp [bw,p]) (x:=.int k' v) (by simp [q,g])];rfl
    ·cases h
   ·cases h
  ·rename_i l hx;have g:=aZ G hx;simp only [VR] at g;obtain ⟨J,F,A⟩:=g;split at h
   ·rename_i M p;obtain ⟨j,B,h⟩:=ak h;obtain ⟨g0,u,rfl⟩:=mc B;refine ⟨_,h,.val (x:=.agg (J.extract (n.toNat*P.cellsOf e) (n.toNat*P.cellsOf e+P.cellsOf e))) ?_ (nv (A.extract _ _))⟩;simp only [execOp,E,F,d,aq,g9 D r k g0 u,sj p (by simp [bw,p]),ax,aB]
   ·rename_i m2 O p;obtain ⟨j,B,h⟩:=ak h;obtain ⟨g0,u,rfl⟩:=mc B;refine ⟨_,h,.val (x:=.agg (J.extract (n.toNat*P.cellsOf e) (n.toNat*P.cellsOf e+P.cellsOf e))) ?_ (nv (A.extract _ _))⟩;simp only [execOp,E,F,d,aq,g9 D r k g0 u,sj p (by simp [bw,p]),ax,aB]
   ·rename_i p;split at h
    ·rename_i q;have q:=be q;split at h
     ·rename_i U I;obtain ⟨j,B,h⟩:=ak h;obtain ⟨g0,u,rfl⟩:=mc B;obtain ⟨v,g,h⟩:=ak h;obtain ⟨y,hy,C⟩:=A.get (j:=n.toNat) (v:=.s v) (by rw [qN I];simp [g]);refine ⟨_,h,.val (x:=y) ?_ C⟩;simp only [execOp,E,F,d,aq,g9 D r k g0 u];rw [oi p (by simp [bw,p]) (x:=y) (by simpa [q] using hy)];rfl
     ·cases h
    ·cases h
   ·rename_i d' L S Q p;split at h
    ·rename_i q;have q:=be q;obtain ⟨j,B,h⟩:=ak h;obtain ⟨g0,u,rfl⟩:=mc B;obtain ⟨v,g,h⟩:=ak h;obtain ⟨y,hy,C⟩:=A.get g;refine ⟨_,h,.val (x:=y) ?_ C⟩;simp only [execOp,E,F,d,aq,g9 D r k g0 u];rw [oi p (by simp only [bw,p];cases d'<;>simp_all) (x:=y) (by simpa [q] using hy)];rfl
    ·cases h
   ·cases h
  ·cases h
 ·rename_i D;split at h
  ·rename_i l hx;have g:=aZ G hx;simp only [VR] at g;obtain ⟨b,K,h⟩:=ak h;refine ⟨_,h,.val (x:=.int .u8 b.toNat) ?_ (by simp [VR])⟩;simp only [execOp,E,g,d,aq,sC D K,ax,aB]
  ·cases h
 ·cases h
theorem yT {t:TypeId} (a:P.underlying t=some .string) {l:aa} {lo hi:Option Value} {L H:Nat} {w:World}
  (b:(Instr.sliceBounds false l.length l.length lo hi none).run P w=.ok (L,H,l.length) w):
  (Instr.sliceAt t (.string ⟨l.toArray⟩) lo hi none).run P w=.ok (.string ⟨((l.take H).drop L).toArray⟩) w:=by
 rw [run_sliceAt_string w t _ _ _ _ a];have hs:(ByteArray.mk l.toArray).size=l.length:=rfl;simp only [Instr.slice,aq,aN a,ax,tU,bE,aC,hs,b,aB];congr 2;apply JO;rw [ByteArray.data_extract];apply jv;simp [List.extract,wt]
theorem yE {t e:TypeId} {n:Nat} {d:TypeInfo} (c:P.underlying t=some (.array n e)) (hi:P.info? e=some d) {lo a:Option Value} {L H r off:Nat} {w:World}
  (b:(Instr.sliceBounds false n n lo a none).run P w=.ok (L,H,n) w):
  (Instr.sliceAt t (.pointer (some ⟨r,off,none⟩)) lo a none).run P w=.ok (.slice (some ⟨r,if n=L then off else off+L*P.cellsOf e,none⟩) (H - L) (n - L)) w:=by
 simp only [Instr.sliceAt,aq,aN c,ax,Instr.sureAddr,aB,b,eV hi,kW];split<;>rfl
theorem lT {t e:TypeId} {n cp:Nat} {d:TypeInfo} (c:P.underlying t=some (.slice e)) (hi:P.info? e=some d) {lo a:Option Value} {L H r off:Nat} {w:World}
  (b:(Instr.sliceBounds true n cp lo a none).run P w=.ok (L,H,cp) w):
  (Instr.sliceAt t (.slice (some ⟨r,off,none⟩) n cp) lo a none).run P w=.ok (.slice (some ⟨r,if cp=L then off else off+L*P.cellsOf e,none⟩) (H - L) (cp - L)) w:=by
 simp only [Instr.sliceAt,Instr.slice,aq,aN c,ax,b,eV hi,aB];split
 ·rfl
 ·simp only [dC,kW]
theorem ig (n l x y:Nat):cond (Nat.beq n l) x y=if n=l then x else y:=by
 by_cases h:n=l
 ·subst h;simp
 ·have:Nat.beq n l=false:=by
   cases a:Nat.beq n l
   ·rfl
   ·exact absurd (be a) h
  simp [this,h]
theorem qU {t e:TypeId} {c:TypeInfo} {b:Option Addr} (f:P.underlying t=some (.slice e)) (hi:P.info? e=some c) {lo a:Option Value} {w:World}
  (d:(Instr.sliceBounds true 0 0 lo a none).run P w=.ok (0,0,0) w):
  (Instr.sliceAt t (.slice b 0 0) lo a none).run P w=.ok (.slice b 0 0) w:=by
 simp only [Instr.sliceAt,Instr.slice,aq,aN f,ax,d,eV hi,aB,aI]
theorem Ao {T:List (Nat×Option V)} (p:TR ι T a.tmps) {lo hi:Option Operand} {l h:Option Int} (x:oq (opd T) lo=some l)
  (u:oq (opd T) hi=some h) {len:Nat} {c:Nat->Nat->Option α} (f:(hiK len len h λh=>loK h l λl=>c h l)=some z):
  ∃H L,c H L=some z/\H<=len/\L<=H/\∀n,len<=n->∀w,(Instr.sliceBounds true len n (lo.map a.eval) (hi.map a.eval) none).run P w=.ok (L,H,n) w:=by
 have j:∀{H:Nat},loK H l (c H)=some z->∃L,c H L=some z/\L<=H/\
   ∀w,(match lo.map a.eval with | some v=>Instr.sliceBound v H .sliceB | none=>pure 0).run P w=.ok L w:=by
  intro H f;rcases mO p x with ⟨rfl,g⟩ | ⟨k,m,rfl,g⟩
  ·exact ⟨0,f,gf _,λw=>by rw [g];rfl⟩
  ·simp only [loK] at f;obtain ⟨L,o,i⟩:=ak f;obtain ⟨g0,q,rfl⟩:=jK o;exact ⟨_,i,by omega,λw=>by rw [g];exact run_sliceBound w k m H .sliceB g0 q⟩
 rcases mO p u with ⟨rfl,g⟩ | ⟨k,m,rfl,g⟩
 ·simp only [hiK] at f;obtain ⟨L,o,i,d⟩:=j f;refine ⟨len,L,o,aM _,i,λn r w=>?_⟩;have d:=d w;rw [g];simp only [Instr.sliceBounds,aq,aB,ax,tU,bE,aC];cases b:lo.map a.eval with
  | none=>rw [b] at d;simp only [aB,vv,uv] at d;simp [d]
  | some v=>rw [b] at d;simp only [] at d;simp [d]
 ·simp only [hiK] at f;obtain ⟨H,o,i⟩:=ak f;obtain ⟨g0,q,rfl⟩:=jK o;obtain ⟨L,t,d,e⟩:=j i;refine ⟨_,L,t,by omega,d,λn r w=>?_⟩;have e:=e w;rw [g];have s:=run_sliceBound (P:=P) w k m n .sliceAcap g0 (by omega);simp only [Instr.sliceBounds,aq,aB,ax,tU,bE,aC,aI,s];cases b:lo.map a.eval with
  | none=>rw [b] at e;simp only [aB,vv,uv] at e;simp [e]
  | some v=>rw [b] at e;simp only [] at e;simp [e]
theorem JD {t:TypeId} {x:Operand} {lo hi:Option Operand} (I:o.op=.slice t x lo hi none) (G:TR ι s.T a.tmps) (hW:WR ι s.H s.nb w) (h:effK P (opd s.T) s.H f (.slice t x lo hi none) c=some z):
  ∃e,c e=some z/\fw P ι f o a w e:=by
 simp only [effK] at h;obtain ⟨v,hx,C⟩:=ak h;obtain ⟨l,K,Y⟩:=ak C;obtain ⟨X,u,d⟩:=ak Y;clear h C Y;have A:=aZ G hx;clear hx;split at d
 ·rename_i E;cases v<;>simp only [reduceCtorEq] at d;rename_i sl;simp only [VR] at A;obtain ⟨H,L,g,_,_,_,i,_,B⟩:=tw (P:=P) G K u (isSlice:=false) d;refine ⟨_,g,.val (x:=.string ⟨((sl.take H).drop L).toArray⟩) ?_ (by simp [VR])⟩;simp only [execOp,I,A,aq,gH];rw [yT E (B w)];rfl
 ·rename_i n e E;split at d
  case h_2=>cases d
  rename_i hp;obtain ⟨ti,p⟩:=bz hp;cases v<;>simp only [reduceCtorEq] at d;rename_i b off;simp only [VR] at A;obtain ⟨r,i,y⟩:=A;obtain ⟨H,L,g,_,F,D,g4,_,B⟩:=tw (P:=P) G K u (isSlice:=false) d;have U:H<=n:=by
   cases X with
   | none=>exact tQ (F rfl)
   | some q=>exact D (by simp)
  refine ⟨_,g,.val (x:=.slice (some ⟨r.r,if n=L then off else off+L*P.cellsOf e,none⟩) (H - L) (n - L)) ?_ ?_⟩
  ·simp only [execOp,I,y,aq,gH];rw [yE E p (B w)];rfl
  ·simp only [VR];exact ⟨r,n - L,i,λm Q=>by cases Q;rfl,by omega,by rw [ig,nu,uC]⟩
 ·rename_i e E;split at d
  case h_2=>cases d
  rename_i hp;obtain ⟨ti,p⟩:=bz hp;cases v<;>try (simp only [reduceCtorEq] at d;done)
  ·rename_i b;simp only [VR] at A;simp only at d;split at d
   case h_2=>cases d
   rename_i tr m V;split at d
   case h_2=>cases d
   rename_i J;have J:=be J;obtain ⟨H,L,g,F,D,B⟩:=Ao (P:=P) G K u d;rcases ib hW V with ⟨q,cs,e',fr,C,Y,Z,q5,_,_,_⟩ | ⟨C,rfl⟩
   ·rcases A with ⟨q',i,y⟩ | ⟨i,_⟩
    ·rw [i] at C;cases C;refine ⟨_,g,.val (x:=.slice (some ⟨q.r,if q.k=L then q.o else q.o+L*P.cellsOf e,none⟩) (H - L) (q.k - L)) ?_ ?_⟩
     ·simp only [execOp,I,y,aq,gH];rw [<-Z,lT E p (B q.k (by omega) w)];rfl
     ·simp only [VR];exact .inl ⟨q,_,_,i,⟨by omega,iU⟩,λN=>by rw [ab (by omega)],rfl⟩
    ·rw [i] at C;cases C
   ·rcases A with ⟨q,i,y⟩ | ⟨i,O,y⟩
    ·rw [i] at C;cases C
    ·simp only [cA,yA] at F D;subst F;simp only [yA] at D;subst D;refine ⟨_,g,.val (x:=.slice O 0 0) ?_ (by unfold VR;exact .inr ⟨i,⟨rfl,iU⟩,O,rfl⟩)⟩;simp only [execOp,I,y,aq,gH];rw [qU E p (B 0 (aM _) w)];rfl
  ·rename_i zz b j n _;simp only [VR] at A;simp only at d;split at d
   case h_2=>cases d
   rename_i J;have J:=be J;obtain ⟨H,L,g,F,D,B⟩:=Ao (P:=P) G K u d;rcases A with ⟨q,cp,off,i,⟨S,_⟩,R,y⟩ | ⟨i,⟨rfl,_⟩,O,y⟩
   ·refine ⟨_,g,.val (x:=.slice (some ⟨q.r,if cp=L then off else off+L*P.cellsOf e,none⟩) (H - L) (cp - L)) ?_ ?_⟩
    ·simp only [execOp,I,y,aq,gH];rw [lT E p (B cp S w)];rfl
    ·simp only [VR];exact .inl ⟨q,_,_,i,⟨by omega,iU⟩,λN=>by rw [ab (by omega),R (by omega),nu,fM,J,gG],rfl⟩
   ·simp only [yA] at F;subst F;simp only [yA] at D;subst D;refine ⟨_,g,.val (x:=.slice O 0 0) ?_ (by unfold VR;exact .inr ⟨i,⟨rfl,iU⟩,O,rfl⟩)⟩;simp only [execOp,I,y,aq,gH];rw [qU E p (B 0 (aM _) w)];rfl
  rename_i b off n cap;simp only [VR] at A;obtain ⟨r,cp,i,W,S,y⟩:=A;cases cap with
  | some m=>
   obtain rfl:=W m rfl;obtain ⟨H,L,g,_,F,D,g4,_,B⟩:=tw (P:=P) G K u (isSlice:=true) d;have U:H<=cp:=by
    cases X with
    | none=>have:=F rfl;omega
    | some q=>exact D (by simp)
   refine ⟨_,g,.val (x:=.slice (some ⟨r.r,if cp=L then off else off+L*P.cellsOf e,none⟩) (H - L) (cp - L)) ?_ ?_⟩
   ·simp only [execOp,I,y,aq,gH];rw [lT E p (B w)];rfl
   ·simp only [VR];exact ⟨r,cp - L,i,λm Q=>by cases Q;rfl,by omega,by rw [ig,nu,uC]⟩
  | none=>
   have hll:l=none:=by
    cases l with
    | none=>rfl
    | some q=>
     cases X with
     | none=>simp [hiK] at d
     | some q=>simp only [hiK] at d;obtain ⟨_,_,Z⟩:=ak d;cases Z
   subst hll;have M:lo.map a.eval=none:=by
    rcases mO G K with ⟨_,g⟩ | ⟨k,m,h0,_⟩
    ·exact g
    ·cases h0
   have key:∃H,c { val:=some (.sl b off H none) }=some z/\H<=n/\(Instr.sliceBounds true n cp (lo.map a.eval) (hi.map a.eval) none).run P w=.ok (0,H,cp) w:=by
    rcases mO G u with ⟨rfl,g⟩ | ⟨k,m,rfl,g⟩
    ·simp only [hiK] at d;exact ⟨n,d,aM _,by rw [g,M];simp [Instr.sliceBounds]⟩
    ·simp only [hiK] at d;obtain ⟨H,h2,h3⟩:=ak d;obtain ⟨g0,g1,rfl⟩:=jK h2;refine ⟨_,h3,by omega,?_⟩;have V:=run_sliceBound (P:=P) w k m cp .sliceAcap g0 (by omega);rw [g,M];simp [Instr.sliceBounds,V]
   obtain ⟨H,g,h2,h3⟩:=key;refine ⟨_,g,.val (x:=.slice (some ⟨r.r,if cp=0 then off else off+0*P.cellsOf e,none⟩) (H - 0) (cp - 0)) ?_ ?_⟩
   ·simp only [execOp,I,y,aq,gH];rw [lT E p h3];rfl
   ·simp only [VR];exact ⟨r,cp,i,λm Q=>(by cases Q),by omega,by simp⟩
 ·cases d
theorem tK (a:List Int):a.foldl (λ(r:ByteArray) n=>r.push (UInt8.ofNat n.toNat)) ByteArray.empty=⟨(fU a).toArray⟩:=by
 rw [foldl_push_bytes];apply JO;simp [fU]
theorem vP {w:World} {r off q m cp:Nat} {l:List Int} {e:TypeId} {fr:Nat×Nat} (h:w.heap[r]?=some (.cells (l.map (Value.int .u8)).toArray e fr)) (g:l.length=q) (f:off+m<=q):
  (Conv.bytesToString (.slice (some ⟨r,off,none⟩) m cp)).run P w=.ok (.string ⟨(fU ((l.drop off).take m)).toArray⟩) w:=by
 have a:(((l.drop off).take m).map (Value.int .u8)).length=m:=by simp;omega
 have hc:=uR (P:=P) w ⟨r,off,none⟩ (((l.drop off).take m).map (Value.int .u8)) (λj v b=>by
  have c:j<m:=by
   rcases aE j m with d | d
   ·exact d
   ·rw [eX (by omega)] at b;cases b
  rw [kW,aV h];rw [l6,ow c,kO] at b;simpa using b)
 rw [a] at hc;rw [run_bytesToString w _ m cp _ hc,tK]
theorem xZ (w:World) (e:TypeId) (s:ByteArray):
  Lib.bytesWorld w e s=World.alloc { w with drawn:=w.drawn+1 } (.cells (Lib.bytesCells w e s) e ((Lib.bytesCells w e s).size,(Lib.bytesCells w e s).size+1)):=by
 have d:=Lib.bytesWorld_at_new w e s;have f:=Lib.bytesWorld_size w e s;have c:(Lib.bytesWorld w e s).heap=w.heap.push (.cells (Lib.bytesCells w e s) e ((Lib.bytesCells w e s).size,(Lib.bytesCells w e s).size+1)):=by
  apply OK;intro j;by_cases b:j=w.heap.size
  ·subst b;rw [d];simp
  ·by_cases a:j<w.heap.size
   ·rw [Lib.bytesWorld_at_old w e s j a,Array.getElem?_push,ab b]
   ·rw [tZ (by omega),tZ (by simp;omega)]
 show ({ (Lib.bytesWorld w e s) with heap:=(Lib.bytesWorld w e s).heap }:World)=_;rw [c];rfl
theorem oZ:∀(l:List Int),l.flatMap (vals [.i .u8])=l.map (Value.int .u8)
 | []=>rfl
 | x::l=>by
  have:=oZ l;simp only [oa,fg,vals,Lf.val] at this ⊢;rw [this];rfl
theorem pB {w:World} {r cp:Nat} {l:List Int} {b:Array Value} {e:TypeId} {fr:Nat×Nat} {m:Nat} (h:w.heap[r]?=some (.cells b e fr)) (k:m<=b.size)
  {o:Nat} (p:(b.toList.drop o).take (l.length*([Lf.i .u8]:List Lf).length)=l.flatMap (vals [.i .u8])) {j n:Nat} (s:j+n<=l.length):
  (Conv.bytesToString (.slice (some ⟨r,o+j,none⟩) n cp)).run P w=.ok (.string ⟨(fU ((l.drop j).take n)).toArray⟩) w:=by
 have hl':(b.toList.drop o).take l.length=l.map (Value.int .u8):=by rw [<-oZ];simpa using p
 have a:(((l.drop j).take n).map (Value.int .u8)).length=n:=by simp;omega
 have hc:=uR (P:=P) w ⟨r,o+j,none⟩ (((l.drop j).take n).map (Value.int .u8)) (λi v c=>by
  have d:i<n:=by
   rcases aE i n with g | g
   ·exact g
   ·rw [eX (by omega)] at c;cases c
  rw [kW,aV h];rw [l6,ow d,kO] at c;have f:=ck (λq:List Value=>q[j+i]?) hl';simp only [ow (show j+i<l.length by omega),l6,kO] at f;rw [c] at f;simpa [gG] using f)
 rw [a] at hc;rw [run_bytesToString w _ n cp _ hc,tK]
theorem pw {w:World} (c:Option Addr):(Conv.bytesToString (.slice c 0 0)).run P w=.ok (.string ⟨#[]⟩) w:=by
 cases c with
 | none=>rfl
 | some a=>
  have b:=uR (P:=P) w a ([].map (Value.int .u8)) (λj v d=>by simp at d);exact run_bytesToString (P:=P) w a 0 0 [] b
theorem BD {B d:TypeId} {x:Operand} (y:o.op=.convert B d x) (hT:TR ι s.T a.tmps) (J:WR ι s.H s.nb w) (h:effK P (opd s.T) s.H f (.convert B d x) c=some z):
  ∃e,c e=some z/\fw P ι f o a w e:=by
 simp only [effK] at h;obtain ⟨v,hx,q⟩:=ak h;clear h;have g:=aZ hT hx;clear hx;split at q
 case h_2=>cases q
 rename_i C hs;split at q
 ·rename_i k t;cases v<;>simp only [reduceCtorEq] at q;rename_i k' n;simp only [VR] at g;refine ⟨_,q,.val (x:=.int k (k.wrap n)) ?_ (by simp [VR])⟩;simp only [execOp,y,g,aq,convert,aN hs,aN t,ax];cases C<;>rfl
 ·rename_i t;cases v<;>simp only [reduceCtorEq] at q
  ·rename_i b;simp only [VR] at g;cases C<;>try (simp only [reduceCtorEq] at q;done)
   rename_i e;simp only at q;split at q
   case h_2=>cases q
   rename_i u;split at q
   case h_2=>cases q
   rename_i l F;refine ⟨_,q,.val (x:=.string ⟨(fU l).toArray⟩) ?_ (by simp [VR])⟩;rcases ib J F with ⟨q,cs,W,fr,i,R,Y,q5,S,U,_⟩ | ⟨i,rfl⟩
   ·rcases g with ⟨q',p,A⟩ | ⟨p,_⟩
    ·rw [p] at i;cases i;simp only [execOp,y,A,aq,run_convert_bytes_string w B d e _ _ _ hs u t];rw [<-Y];have:=pB (P:=P) (cp:=q.k) R S U (j:=0) (n:=l.length) (by omega);simp only [cH,me,cP] at this;rw [this];rfl
    ·rw [p] at i;cases i
   ·rcases g with ⟨q,p,A⟩ | ⟨p,Q,A⟩
    ·rw [p] at i;cases i
    ·simp only [execOp,y,A,aq,run_convert_bytes_string w B d e Q 0 0 hs u t,pw];rfl
  ·rename_i zz b j n _;simp only [VR] at g;cases C<;>try (simp only [reduceCtorEq] at q;done)
   rename_i e;simp only at q;split at q
   case h_2=>cases q
   rename_i u;split at q
   case h_2=>cases q
   rename_i l F;split at q
   case h_2=>cases q
   rename_i N;have N:=be N;subst N;obtain ⟨hc,q⟩:=dh q;have D:=aD hc;refine ⟨_,q,.val (x:=.string ⟨(fU ((l.drop j).take n)).toArray⟩) ?_ (by simp [VR])⟩;rcases g with ⟨V,cp,off,p,⟨L,_⟩,I,A⟩ | ⟨p,⟨rfl,_⟩,Q,A⟩
   ·rcases ib J F with ⟨q',cs,W,fr,i,R,Y,q5,S,U,_⟩ | ⟨i,rfl⟩
    ·rw [p] at i;cases i;simp only [execOp,y,A,aq,run_convert_bytes_string w B d e _ _ _ hs u t];by_cases hn:0<n
     ·rw [I hn,qo];rw [pB (P:=P) (cp:=cp) R S U D];rfl
     ·have O:n=0:=by omega
      subst O;have M:=uR (P:=P) w ⟨V.r,off,none⟩ ([].map (Value.int .u8)) (λj v X=>by simp at X);have Z:=run_bytesToString (P:=P) w ⟨V.r,off,none⟩ 0 cp [] M;rw [Z];simp [fU];rfl
    ·rw [p] at i;cases i
   ·simp only [execOp,y,A,aq,run_convert_bytes_string w B d e Q 0 0 hs u t,pw];simp [fU]
  ·rename_i k' n;simp only [VR] at g;cases C<;>simp only [reduceCtorEq] at q;refine ⟨_,q,.val (x:=.string (Utf8.encode n)) ?_ ?_⟩
   ·simp only [execOp,y,g,aq,convert,aN hs,aN t,ax,Conv.intToString,aB]
   ·simp [VR]
  ·rename_i l;simp only [VR] at g;cases C<;>simp only [reduceCtorEq] at q;refine ⟨_,q,.val (x:=.string ⟨l.toArray⟩) ?_ (by simp [VR])⟩;simp only [execOp,y,g,aq,convert,aN hs,aN t,ax,aB]
  ·simp only [VR] at g;cases C<;>try (simp only [reduceCtorEq] at q;done)
   rename_i e;simp only at q;split at q
   ·rename_i u;refine ⟨_,q,.val (x:=.string .empty) ?_ (by simp only [VR];rfl)⟩;simp only [execOp,y,g,aq,run_convert_bytes_string w B d e none 0 0 hs u t];rfl
   ·cases q
  ·rename_i b off m cap;simp only [VR] at g;obtain ⟨r,cp,p,_,_,A⟩:=g;cases C<;>try (simp only [reduceCtorEq] at q;done)
   rename_i e;simp only at q;split at q
   ·rename_i u;split at q
    ·rename_i qn l F;obtain ⟨hc,q⟩:=dh q;have D:=aD hc;obtain ⟨r',W,fr,L,I,g3,_⟩:=sT J F;rw [p] at L;cases L;refine ⟨_,q,.val (x:=.string ⟨(fU ((l.drop off).take m)).toArray⟩) ?_ (by simp [VR])⟩;simp only [execOp,y,A,aq,run_convert_bytes_string w B d e _ _ _ hs u t,vP I g3 D,ax,aB]
    ·cases q
   ·cases q
 ·rename_i e t;split at q
  case h_2=>cases q
  rename_i u;cases v<;>try (simp only [reduceCtorEq] at q;done)
  rename_i l;simp only [VR] at g;cases C<;>simp only [reduceCtorEq] at q;refine ⟨_,q,.mkR (d:=w.drawn+1) (q:=(Rf.of w.heap.size (l.length) (grownCap w l.length 0 e))) (x:=.slice (some ⟨w.heap.size,0,none⟩) l.length (grownCap w l.length 0 e))
   (ob:=.cells (Lib.bytesCells w e ⟨l.toArray⟩) e ((Lib.bytesCells w e ⟨l.toArray⟩).size,(Lib.bytesCells w e ⟨l.toArray⟩).size+1)) ?_ rfl rfl ?_ ?_⟩
  ·simp only [execOp,y,g,aq,Lib.run_convert_string_bytes w B d e ⟨l.toArray⟩ hs t u,ax,aB,xZ];rfl
  ·have E:l.length<=grownCap w l.length 0 e:=by simp only [grownCap,Question.cut];omega
   have G:((ByteArray.mk l.toArray).data.map λb=>Value.int .u8 b.toNat).size=l.length:=by simp
   refine ⟨_,e,_,rfl,by simp,E,?_,?_,?_⟩
   ·simp only [Lib.bytesCells,Array.size_append,G,Array.size_replicate,aG,cA];have:(ByteArray.mk l.toArray).size=l.length:=rfl;rw [this];omega
   ·simp only [Lib.bytesCells,uB,DU,aG,cA,cb,qo,cH];rw [rz (by simp),iP (by simp)];rw [oZ,Array.toList_map,sc];rfl
   ·refine .inr λj X K=>?_;exact absurd K.1 (by simp only;omega)
  ·simp only [VR];exact .inl ⟨_,cO _ _ _,rfl⟩
 ·cases q
theorem J9 {U:Call} (R:o.op=.call U) (Z:TR ι s.T a.tmps) (W:WR ι s.H s.nb w) (h:effK P (opd s.T) s.H f (.call U) c=some z):
  ∃e,c e=some z/\fw P ι f o a w e:=by
 obtain ⟨Q,args,D⟩:=U;simp only [effK] at h;split at h
 case h_2=>cases h
 rename_i b;obtain ⟨l,hl,q⟩:=ak h;clear h;have g:=uV Z hl;have J:(args.map a.eval).toList=args.toList.map a.eval:=by simp
 rw [<-J] at g;generalize hA:args.map a.eval=A at g;have v:∃S,∀w,((do let d <-resolve a.eval ⟨.builtin b,args,D⟩ o.type;invoke d.target d.args):Sem Next).run P w=(builtin b D o.type S A).run P w:=by
  refine ⟨args.map fun | .const _=>true | _=>false,λw=>?_⟩;simp only [resolve,hA,aq,aB,ax,invoke];rfl
 obtain ⟨S,v⟩:=v;have one:∀{X:Value},A.toList=[X]->A[0]?=some X:=by
  intro X p;have:A=#[X]:=by apply jv;simpa using p
  simp [this]
 have E:∀{t:TypeId} {r:List TypeId},D.toList=t::r->D[0]?=some t:=by
  intro t r u;rw [<-nT,u];rfl
 have j:∀{n:Int} {rd:List Nat},b=.len->(∀w,(Builtin.len_ D o.type A).run P w=.ok (goInt n) w)->c { val:=some (.i .i64 n),rd:=rd }=some z->∃e,c e=some z/\fw P ι f o a w e:=by
  intro n rd O F hc;subst O;refine ⟨_,hc,.val (x:=.int .i64 n) ?_ (by simp [VR])⟩;simp only [execOp,R];rw [v w];simp only [builtin,aq,F,ax,aB,goInt]
 have C:∀{n:Int} {rd:List Nat},b=.cap->(∀w,(Builtin.cap_ D o.type A).run P w=.ok (goInt n) w)->c { val:=some (.i .i64 n),rd:=rd }=some z->∃e,c e=some z/\fw P ι f o a w e:=by
  intro n rd O F hc;subst O;refine ⟨_,hc,.val (x:=.int .i64 n) ?_ (by simp [VR])⟩;simp only [execOp,R];rw [v w];simp only [builtin,aq,F,ax,aB,goInt]
 split at q
 ·split at q
  ·rename_i sl;simp only [VRs,VR] at g;obtain ⟨_,_,p,rfl,rfl⟩:=g;split at q
   ·rename_i t r u;split at q
    ·rename_i B;refine j rfl (λw=>?_) q;simp only [Builtin.len_,E u,one p,aq,aN B,ax,aB];rfl
    ·cases q
   ·cases q
  ·rename_i N oo n cp;simp only [VRs,VR] at g;obtain ⟨_,_,p,⟨r,cap,_,_,_,rfl⟩,rfl⟩:=g;split at q
   ·rename_i t r u;split at q
    ·rename_i B;refine j rfl (λw=>?_) q;simp only [Builtin.len_,E u,one p,aq,aN B,ax,aB]
    ·cases q
   ·cases q
  ·simp only [VRs,VR] at g;obtain ⟨_,_,p,rfl,rfl⟩:=g;split at q
   ·rename_i t r u;split at q
    ·rename_i B;refine j rfl (λw=>?_) q;simp only [Builtin.len_,E u,one p,aq,aN B,ax,aB];rfl
    ·cases q
   ·cases q
  ·rename_i N;simp only [VRs,VR] at g;obtain ⟨_,_,p,M,rfl⟩:=g;split at q
   ·rename_i t r u;split at q
    ·rename_i B;split at q
     ·rename_i tr l O;refine j (rd:=[N]) rfl (λw=>?_) q;rcases ib W O with ⟨q,S,e',fr,I,q2,q4,q5,q6,q7,_⟩ | ⟨I,rfl⟩
      ·rcases M with ⟨q',G,rfl⟩ | ⟨G,_⟩
       ·rw [G] at I;cases I;simp only [Builtin.len_,E u,one p,aq,aN B,ax,aB,q4]
       ·rw [G] at I;cases I
      ·rcases M with ⟨q,G,_⟩ | ⟨G,V,rfl⟩
       ·rw [G] at I;cases I
       ·simp only [Builtin.len_,E u,one p,aq,aN B,ax,aB];rfl
     ·cases q
    ·cases q
   ·cases q
  ·rename_i zz N jj n _;simp only [VRs,VR] at g;obtain ⟨_,_,p,M,rfl⟩:=g;split at q
   ·rename_i t r u;split at q
    ·rename_i B;refine j rfl (λw=>?_) q;rcases M with ⟨q,cp,off,G,_,_,rfl⟩ | ⟨_,⟨rfl,_⟩,V,rfl⟩
     ·simp only [Builtin.len_,E u,one p,aq,aN B,ax,aB]
     ·simp only [Builtin.len_,E u,one p,aq,aN B,ax,aB]
    ·cases q
   ·cases q
  ·simp only [VRs] at g;obtain ⟨X,_,p,_,rfl⟩:=g;split at q
   ·rename_i t r u;split at q
    ·rename_i B;refine j rfl (λw=>?_) q;simp only [Builtin.len_,E u,one p,aq,aN B,ax,aB]
    ·cases q
   ·cases q
  ·cases q
 ·split at q
  ·rename_i zz N jj Y m;simp only [VRs,VR] at g;obtain ⟨_,_,p,M,rfl⟩:=g;split at q
   ·rename_i t r u;split at q
    ·rename_i B;refine C rfl (λw=>?_) q;rcases M with ⟨q,cp,off,G,⟨_,hc⟩,_,rfl⟩ | ⟨_,⟨_,hc⟩,V,rfl⟩
     ·have:=hc m rfl;subst this;simp only [Builtin.cap_,E u,one p,aq,aN B,ax,aB]
     ·have:=hc m rfl;subst this;simp only [Builtin.cap_,E u,one p,aq,aN B,ax,aB]
    ·cases q
   ·cases q
  ·rename_i N oo Y m;simp only [VRs,VR] at g;obtain ⟨_,_,p,⟨qq,cp,G,hc,_,rfl⟩,rfl⟩:=g;split at q
   ·rename_i t r u;split at q
    ·rename_i B;refine C rfl (λw=>?_) q;have:=hc m rfl;subst this;simp only [Builtin.cap_,E u,one p,aq,aN B,ax,aB]
    ·cases q
   ·cases q
  ·simp only [VRs,VR] at g;obtain ⟨_,_,p,rfl,rfl⟩:=g;split at q
   ·rename_i t r u;split at q
    ·rename_i B;refine C rfl (λw=>?_) q;simp only [Builtin.cap_,E u,one p,aq,aN B,ax,aB];rfl
    ·cases q
   ·cases q
  ·cases q
 ·split at q
  ·rename_i k x k' y;split at q
   ·rename_i K;have K:=jd K;subst K;simp only [VRs,VR] at g;obtain ⟨_,_,p,rfl,_,_,rfl,rfl,rfl⟩:=g;refine ⟨_,q,.val (x:=.int k (cond (decide (y<x)) y x)) ?_ (by simp [VR])⟩;simp only [execOp,R];rw [v w];simp only [builtin,aq,Builtin.min_,p,List.foldlM,Builtin.min2,aB,ax];by_cases L:y<x<;>simp [L]
   ·cases q
  ·cases q
 ·split at q
  ·rename_i k x k' y;split at q
   ·rename_i K;have K:=jd K;subst K;simp only [VRs,VR] at g;obtain ⟨_,_,p,rfl,_,_,rfl,rfl,rfl⟩:=g;refine ⟨_,q,.val (x:=.int k (cond (decide (y>x)) y x)) ?_ (by simp [VR])⟩;simp only [execOp,R];rw [v w];simp only [builtin,aq,Builtin.max_,p,List.foldlM,Builtin.max2,aB,ax];by_cases L:y>x<;>simp [L]
   ·cases q
  ·cases q
 ·cases q
theorem Rx {op:UnOp} {x:V} {X:Value} {c:V->Option α} (h:unK op x c=some z) (hx:VR ι x X) (w:World):
  ∃v R,c v=some z/\VR ι v R/\(Op.unary op X).run P w=.ok R w:=by
 unfold unK at h;split at h
 ·simp only [VR] at hx;subst hx;exact ⟨_,_,h,rfl,rfl⟩
 ·simp only [VR] at hx;subst hx;exact ⟨_,_,h,rfl,rfl⟩
 ·cases h
theorem K3 {x:Operand} {j:Bool} (y:o.op=.next x j) (C:TR ι s.T a.tmps) (B:WR ι s.H s.nb w) (h:effK P (opd s.T) s.H f (.next x j) c=some z):
  ∃e,c e=some z/\fw P ι f o a w e:=by
 simp only [effK] at h;split at h
 case h_2=>cases h
 rename_i b hx;have n:=aZ C hx;simp only [VR] at n;obtain ⟨r,m,q⟩:=n;split at h
 case h_2=>cases h
 rename_i l pos A;obtain ⟨F,ob,t,p,v⟩:=(B.blk b _ A (by simp)).real (by simp);rw [m] at t;cases t;simp only [BR] at v;subst v;have k:(ByteArray.mk l.toArray).size=l.length:=rfl;have d:(getObj r.r).run P w=.ok (.stringIter ⟨l.toArray⟩ pos) w:=by simp [getObj,Sem.run,p]
 cases hc:Nat.blt pos l.length with
 | false=>
  rw [hc] at h;have E:¬pos<l.length:=λg=>by rw [show Nat.blt pos l.length=true from co g] at hc;cases hc
  refine ⟨_,h,.val (x:=.tuple #[.bool false]) ?_ (by simp [VR,VRs])⟩;simp only [execOp,y,q,Instr.next,aq,d,ax,k,E,aC,aB]
 | true=>
  rw [hc] at h;have g:pos<l.length:=aD hc;refine ⟨_,h,?_⟩;unfold fw;have i:∀ob,(Go.setObj r.r ob).run P w=.ok () (setObj w r.r ob):=by
   intro ob;simp [Go.setObj,Sem.run,p,setObj]
  refine ⟨r,m,λ_=>⟨.stringIter ⟨l.toArray⟩ (pos+(dec l pos).2),.value (.tuple #[.bool true,.int .i64 pos,.int .i32 (dec l pos).1]),?_,rfl,.value _ λu D=>by cases D;simp [VR,VRs]⟩⟩;simp only [execOp,y,q,Instr.next,aq,d,ax,k,g,aI,i,aB,dec,goInt]
theorem Dq {t:List Lf} (x:den t):∀n,(List.replicate n x).flatMap (vals t)=(List.replicate n (vals t x)).flatten
 | 0=>rfl
 | n+1=>by simp [qc,oa,Dq x n]
theorem G6 {l:List Value}:∀n:Nat,(List.replicate n l).flatten.length=n*l.length
 | 0=>by simp
 | n+1=>by rw [qc,List.flatten_cons,bv,G6 n,fM];omega
theorem IY {l:List Value}:∀(n j:Nat),j<n*l.length->(List.replicate n l).flatten[j]?=l[j%l.length]?
 | 0,j,h=>by simp at h
 | n+1,j,h=>by
  simp only [qc,List.flatten_cons];by_cases a:j<l.length
  ·rw [lK a,pV a]
  ·rw [nN (by omega),IY n _ (by rw [fM] at h;omega),<-Nat.mod_eq_sub_mod (by omega)]
theorem xP {t:TypeId} {x y:Operand} (Y:o.op=.makeSlice t x y) (M:TR ι s.T a.tmps) (h:effK P (opd s.T) s.H f (.makeSlice t x y) c=some z):
  ∃e,c e=some z/\fw P ι f o a w e:=by
 simp only [effK] at h;obtain ⟨u,D,L⟩:=ak h;obtain ⟨v,E,b⟩:=ak L;clear h L;have D:=aZ M D;have E:=aZ M E;split at b
 case h_2=>cases b
 rename_i e hd;split at b
 case h_2=>cases b
 rename_i k1 n k2 m _ _;simp only [VR] at D E;obtain ⟨zv,J,b⟩:=ak b;split at b
 case h_2=>cases b
 rename_i tr p _ l;split at b
 case h_2=>cases b
 rename_i O;simp only [az,gP] at O;obtain ⟨N,e2,R,G⟩:=O;have R:=aD R;have G:=aD G;obtain ⟨U,F,b⟩:=ak b;obtain ⟨hc,b⟩:=dh b;simp only [az,bX] at hc;obtain ⟨S,V,c2⟩:=hc;obtain ⟨zc,i,K,h2,Z,_⟩:=tf ι J;rw [l] at K;cases K;have g:=lq Z;rw [s9 F] at g;have g:=(kr ι tr U _).1 g;have A:p.size=P.cellsOf e:=by unfold Program.cellsOf;rw [l];rfl
 have W:m=(m.toNat:Int):=by omega
 have r:=run_make (P:=P) w t e p zc hd l h2 k1 k2 n m S V (by
  rw [W,<-G4];have:p.bytes*m.toNat<=1048576*67108864:=vj G (by omega);omega) (by omega)
 refine ⟨_,b,.mkR (d:=w.drawn) (q:=(Rf.of w.heap.size (n.toNat) (m.toNat))) (x:=.slice (some ⟨w.heap.size,0,none⟩) n.toNat m.toNat) (ob:=.cells (madeCells zc.cells (m.toNat*p.size)) e) ?_ rfl rfl ?_ ?_⟩
 ·simp only [execOp,Y,D,E,aq,r,ax,aB]
 ·have I:(madeCells zc.cells (m.toNat*p.size)).size=m.toNat*p.size:=size_madeCells _ _;refine ⟨_,e,_,rfl,by simp,by simp only;omega,by rw [I,A,N];simp,?_,.inr (ql _)⟩;simp only [cH];rw [Dq,List.length_replicate,<-g];apply xf;intro j;have k:zc.cells.toList.length=tr.length:=by rw [g,iK]
  have B:zc.cells.size=tr.length:=by simpa using k
  have X:n.toNat*tr.length<=m.toNat*tr.length:=l7 _ (by omega);by_cases Q:j<n.toNat*tr.length
  ·rw [ow Q,IY n.toNat j (by rw [k];exact Q),k];have C:j%tr.length<zc.cells.size:=by rw [B];exact pU _ (by omega)
   simp only [madeCells,A,<-N,B];rw [nT,Array.getElem?_map,Array.getElem?_range];simp [show j<m.toNat*tr.length by omega,C]
  ·rw [eX (by rw [eT];omega),eX (by rw [G6,k];omega)]
 ·simp only [VR];exact .inl ⟨_,cO _ _ _,rfl⟩
theorem P6 {op:BinOp} {t:TypeId} {x y:Operand} {u v:V} {r:Bool} {X Y:Value} (h:niK P op t x y u v=some r) (hx:VR ι u X) (hy:VR ι v Y) (w:World):
  (eqGuard op t x y X Y).run P w=.ok () w/\(binOp op t X Y).run P w=.ok (.bool r) w:=by
 unfold niK at h;split at h
 case h_2=>cases h
 simp only [VR] at hx hy;subst hx hy;split at h
 case h_2=>cases h
 rename_i hc;split at h
 case h_2=>cases h
 rename_i f d;have c:∀o:BinOp,o=.eql\/o=.neq->(eqGuard o t x y .nilIface .nilIface).run P w=.ok () w:=by
  intro o e;have a:(∃v,x=.const v)\/∃v,y=.const v:=by
   rw [gu] at hc;refine hc.imp (λh=>?_) (λh=>?_)
   ·cases x<;>simp_all [Ei]
   ·cases y<;>simp_all [Ei]
  rcases a with ⟨v,rfl⟩ | ⟨v,rfl⟩<;>rcases e with rfl | rfl<;>simp [eqGuard]
 have b:(Op.equal t .nilIface .nilIface).run P w=.ok true w:=by rw [dF,Op.equalIn];simp [aN d]
 split at h
 ·simp only [ah] at h;subst h;exact ⟨c _ (.inl rfl),by simp [binOp,b]⟩
 ·simp only [ah] at h;subst h;exact ⟨c _ (.inr rfl),by simp [binOp,b]⟩
 ·cases h
theorem ji {t e:TypeId} {c:TypeInfo} (d:P.underlying t=some (.slice e)) (hi:P.info? e=some c) {n cp:Nat} {a:Option Addr} {k k':IntKind} {h m:Int} {H M:Nat} (i:bx n m=some M) (f:bx M h=some H) (p:n<=cp) (w:World):
  (Instr.sliceAt t (.slice a n cp) none (some (.int k h)) (some (.int k' m))).run P w=.ok (.slice a H M) w:=by
 obtain ⟨m0,m1,rfl⟩:=jK i;obtain ⟨b,g,rfl⟩:=jK f;have l:=run_sliceBound (P:=P) w k' m cp .slice3Acap m0 (by omega);have j:=run_sliceBound (P:=P) w k h m.toNat .slice3B b g;simp only [Instr.sliceAt,Instr.slice,aq,aN d,ax,Instr.sliceBounds,aI,l,j,aB,eV hi,pP,yw];split
 ·rfl
 ·cases a with
  | none=>rfl
  | some q=>obtain ⟨r,o,x⟩:=q;simp [Addr.add]
theorem Fo {t:TypeId} {x mx:Operand} {lo hi:Option Operand} (I:o.op=.slice t x lo hi (some mx)) (L:TR ι s.T a.tmps) (W:WR ι s.H s.nb w) (h:effK P (opd s.T) s.H f (.slice t x lo hi (some mx)) c=some z):
  ∃e,c e=some z/\fw P ι f o a w e:=by
 simp only [effK,rt] at h;split at h
 case h_2=>cases h
 rename_i hh;obtain ⟨v,hx,d⟩:=ak h;clear h;have A:=aZ L hx;clear hx;split at d
 case h_2=>cases d
 rename_i k1 X k2 m1 O N;have D:=aZ L O;have E:=aZ L N;simp only [VR] at D E;split at d
 case h_2=>cases d
 rename_i e J;split at d
 case h_2=>cases d
 rename_i hp;obtain ⟨ti,i⟩:=bz hp;split at d
 ·rename_i b;split at d
  case h_2=>cases d
  rename_i tr l Z;split at d
  case h_2=>cases d
  obtain ⟨M,u,G⟩:=ak d;obtain ⟨H,p,C⟩:=ak G;obtain ⟨m0,m2,S⟩:=jK u;obtain ⟨R,V,U⟩:=jK p;simp only [VR] at A;rcases ib W Z with ⟨q,cs,e',fr,B,r2,r4,r5,_,_,_⟩ | ⟨B,rfl⟩
  ·rcases A with ⟨q',g,y⟩ | ⟨g,_⟩
   ·rw [g] at B;cases B;refine ⟨_,C,.val (x:=.slice (some ⟨q.r,q.o,none⟩) H M) ?_ ?_⟩
    ·simp only [execOp,I,y,D,E,aq,gH,dC];rw [<-r4,ji J i u p (by omega) w];rfl
    ·simp only [VR];exact .inl ⟨q,_,_,g,⟨by omega,o8⟩,λ_=>by omega,rfl⟩
   ·rw [g] at B;cases B
  ·rcases A with ⟨q,g,y⟩ | ⟨g,F,y⟩
   ·rw [g] at B;cases B
   ·simp only [cA] at m2;have m:M=0:=by omega
    have k:H=0:=by omega
    subst m k;refine ⟨_,C,.val (x:=.slice F 0 0) ?_ (by unfold VR;exact .inr ⟨g,⟨rfl,o8⟩,F,rfl⟩)⟩;simp only [execOp,I,y,D,E,aq,gH,dC];rw [ji J i (n:=0) (M:=0) u p (by omega) w];rfl
 ·rename_i zz b j n _;obtain ⟨M,u,G⟩:=ak d;obtain ⟨H,p,C⟩:=ak G;obtain ⟨m0,m2,S⟩:=jK u;obtain ⟨R,V,U⟩:=jK p;simp only [VR] at A;rcases A with ⟨q,cp,off,g,⟨K,_⟩,Y,y⟩ | ⟨g,⟨K,_⟩,F,y⟩
  ·refine ⟨_,C,.val (x:=.slice (some ⟨q.r,off,none⟩) H M) ?_ ?_⟩
   ·simp only [execOp,I,y,D,E,aq,gH,dC];rw [ji J i u p K w];rfl
   ·simp only [VR];exact .inl ⟨q,_,_,g,⟨by omega,o8⟩,λQ=>Y (by omega),rfl⟩
  ·subst K;have m:M=0:=by omega
   have k:H=0:=by omega
   subst m k;refine ⟨_,C,.val (x:=.slice F 0 0) ?_ (by unfold VR;exact .inr ⟨g,⟨rfl,o8⟩,F,rfl⟩)⟩;simp only [execOp,I,y,D,E,aq,gH,dC];rw [ji J i (n:=0) (M:=0) u p (by omega) w];rfl
 ·obtain ⟨M,u,G⟩:=ak d;obtain ⟨H,p,C⟩:=ak G;obtain ⟨m0,m2,S⟩:=jK u;obtain ⟨R,V,U⟩:=jK p;simp only [VR] at A;have m:M=0:=by omega
  have k:H=0:=by omega
  subst m k;refine ⟨_,C,.val (x:=.slice none 0 0) ?_ (by simp only [VR])⟩;simp only [execOp,I,A,D,E,aq,gH,dC];rw [ji J i (n:=0) (M:=0) u p (by omega) w];rfl
 ·cases d
theorem Qc {op:BinOp} {t:TypeId} {u v:V} {r:Bool} {n:Nat} {rd:List Nat} {X Y:Value} {H:List (Nat×Blk)} {nb:Nat} (h:slN P op t u v=some r) (a:slL H u=some (n,rd)) (s:0<n) (o:WR ι H nb w) (hx:VR ι u X) (hy:VR ι v Y) (p q:Operand):
  (eqGuard op t p q X Y).run P w=.ok () w/\(binOp op t X Y).run P w=.ok (.bool r) w:=by
 unfold slN at h;split at h
 case h_2=>cases h
 simp only [VR] at hy;subst hy;have d:∀(A:Addr) (n c:Nat),X=.slice (some A) n c->P.underlying t=(P.underlying t)->∀e,P.underlying t=some (.slice e)->
   ((eqGuard .eql t p q X (.slice none 0 0)).run P w=.ok () w/\(binOp .eql t X (.slice none 0 0)).run P w=.ok (.bool false) w)/\
   ((eqGuard .neq t p q X (.slice none 0 0)).run P w=.ok () w/\(binOp .neq t X (.slice none 0 0)).run P w=.ok (.bool (!false)) w):=by
  rintro A n c rfl _ e k;exact mw p q (.inl (by simp)) (.inl (by simp)) (by simp) (by rw [dF,Op.equalIn];simp [aN k])
 have b:∀(A:Addr) (n c:Nat),X=.slice (some A) n c->slT P op t=some r->(eqGuard op t p q X (.slice none 0 0)).run P w=.ok () w/\(binOp op t X (.slice none 0 0)).run P w=.ok (.bool r) w:=by
  intro A n c C h;unfold slT at h;split at h
  case h_2=>cases h
  rename_i e k;obtain ⟨m1,m2⟩:=d A n c C rfl e k;split at h
  ·simp only [ah] at h;subst h;exact m1
  ·simp only [ah] at h;subst h;exact m2
  ·cases h
 split at h
 ·rename_i c;simp only [slL] at a;split at a
  case h_2=>cases a
  rename_i tr l y;simp only [ah,bf] at a;obtain ⟨rfl,_⟩:=a;simp only [VR] at hx;rcases ib o y with ⟨F,K,L,fr,g,G,r4,_⟩ | ⟨g,rfl⟩
  ·rcases hx with ⟨B,f,i⟩ | ⟨f,_⟩
   ·exact b _ _ _ i h
   ·rw [f] at g;cases g
  ·simp at s
 ·rename_i z c j m D;simp only [slL,ah,bf] at a;obtain ⟨rfl,_⟩:=a;simp only [VR] at hx;rcases hx with ⟨B,E,J,f,i,I,x⟩ | ⟨f,⟨i,_⟩,_⟩
  ·exact b _ _ _ x h
  ·omega
 ·cases h
theorem BH {t:TypeId} {x:Option Operand} (b:o.op=.makeMap t x) (h:effK P (opd s.T) s.H f (.makeMap t x) c=some z):∃e,c e=some z/\fw P ι f o a w e:=by
 simp only [effK] at h;split at h
 case h_2=>cases h
 split at h
 case h_2=>cases h
 refine ⟨_,h,.mk (x:=.map (some w.heap.size)) (ob:=.map #[] 0) ?_ ⟨#[],0,rfl,rfl⟩ (by simp only [VR];exact ⟨_,cO _ _ _,rfl⟩)⟩;simp only [execOp,b,gH,aq];rfl
theorem Nx {H:List (Nat×Blk)} {nb b:Nat} {w:World} (d:WR ι H nb w) {k:IntKind} {l:List (Int×Nat)} (i:look H b=some (.mp k l)):
  ∃q c a,ι b=some (some q)/\w.heap[q.r]?=some (.map c a)/\c.toList.map (λe=>(e.key,e.val))=l.map λp=>(Value.int k p.1,fnV p.2 #[]):=by
 obtain ⟨q,o,g,h,c,a,rfl,f⟩:=(d.blk b _ i (by simp)).real (by simp);exact ⟨q,c,a,g,h,f⟩
theorem Ic {α:Type} {k:IntKind} {n:Int} {c:Nat->Option α} {z:α}:∀(d:List MapEntry) (l:List (Int×Nat)) (i:Nat),d.map (λe=>(e.key,e.val))=l.map (λp=>(Value.int k p.1,fnV p.2 #[]))->mapK l n c=some z->
  ∃g j,c g=some z/\Instr.findNow (.int k) (.int k n) d i=some (some (j,fnV g #[]))
 | [],[],_,_,h=>by cases h
 | [],_::_,_,a,_=>by simp at a
 | _::_,[],_,a,_=>by simp at a
 | e::d,(m,g)::l,i,a,h=>by
  simp only [fg,List.cons.injEq,bf] at a;obtain ⟨⟨f,s⟩,r⟩:=a;simp only [mapK] at h;cases b:(n==m) with
  | true=>
   rw [b] at h;exact ⟨g,i,h,by simp only [Instr.findNow,f,Instr.sameNow,aI,b,s]⟩
  | false=>
   rw [b] at h;obtain ⟨q,j,o,t⟩:=Ic d l (i+1) r h;exact ⟨q,j,o,by simp only [Instr.findNow,f,Instr.sameNow,aI,b];exact t⟩
theorem Fg {t:TypeId} {m x:Operand} {ok:Bool} (L:o.op=.lookup t m x ok) (r:TR ι s.T a.tmps) (A:WR ι s.H s.nb w) (h:effK P (opd s.T) s.H f (.lookup t m x ok) c=some z):
  ∃e,c e=some z/\fw P ι f o a w e:=by
 simp only [effK] at h;split at h
 case h_2=>cases h
 rename_i b K;split at h
 case h_2=>cases h
 rename_i k n hx;split at h
 case h_2=>cases h
 rename_i kt Q O;split at h
 case h_2=>cases h
 rename_i k2 u;split at h
 case h_2=>cases h
 rename_i k1 l J;split at h
 case h_2=>cases h
 rename_i d;simp only [az] at d;have I:=jd d.1;have C:=jd d.2;subst I C;have v:=aZ r K;have p:=aZ r hx;simp only [VR] at v p;obtain ⟨q,B,M⟩:=v;obtain ⟨R,F,i,y,E,D⟩:=Nx A J;rw [B] at y;cases y;obtain ⟨g,j,N,G⟩:=Ic F.toList l 0 D h;refine ⟨_,N,.val (x:=fnV g #[]) ?_ (by simp only [VR];exact ⟨#[],rfl,by simp [VRs]⟩)⟩;simp only [execOp,L,M,p,aq,Instr.lookup,aN O,ax,MapKept.run_getObj_map E,aB,
  MapKept.run_checkKey (k:=.int k2 n) u (by simp [MapKept.IsKey]),MapKept.run_findKey u G]
 rfl
theorem F4 {t:TypeId} {m x y:Operand} (ho:o.op=.insert t m x y) (F:TR ι s.T a.tmps) (U:WR ι s.H s.nb w) (h:effK P (opd s.T) s.H f (.insert t m x y) c=some z):
  ∃e,c e=some z/\fw P ι f o a w e:=by
 simp only [effK] at h;split at h
 case h_2=>cases h
 rename_i b hm;split at h
 case h_2=>cases h
 rename_i k n g hx hy;split at h
 case h_2=>cases h
 rename_i kt et hd;split at h
 case h_2=>cases h
 rename_i k2 Q;split at h
 case h_2=>cases h
 rename_i k1 l Z;split at h
 case h_2=>cases h
 rename_i C;simp only [az] at C;obtain ⟨E,I,A⟩:=C;have X:=jd E;have V:=jd I;subst X V;have R:=aZ F hm;have M:=aZ F hx;have N:=aZ F hy;simp only [VR] at R M N;obtain ⟨q,J,h2⟩:=R;obtain ⟨Y,W,O⟩:=N;simp only [VRs] at O;have G:Y=#[]:=by
  apply jv;simpa using O
 subst G;obtain ⟨q',D,d,S,L,K⟩:=Nx U Z;rw [J] at S;cases S;have B:∀e∈D.toList,∃p∈l,e.key=.int k2 p.1:=by
  intro e v;have:(e.key,e.val)∈l.map λp=>(Value.int k2 p.1,fnV p.2 #[]):=by rw [<-K];exact dH.2 ⟨e,v,rfl⟩
  obtain ⟨p,hp,i⟩:=dH.1 this;simp only [bf] at i;exact ⟨p,hp,i.1.symm⟩
 have r:MapKept.IsKey (.int k2) (.int k2 n):=by simp [MapKept.IsKey]
 have u:Instr.findNow (.int k2) (.int k2 n) D.toList 0=some none:=by
  rcases MapKept.findNow_spec r D.toList 0 (λe v=>by obtain ⟨p,_,hp⟩:=B e v;rw [hp];simp [MapKept.IsKey]) with ⟨h,_⟩ | ⟨j,e,_,hj,v⟩
  ·exact h
  ·exfalso;obtain ⟨p,hp,i⟩:=B e (fY hj);rw [i] at v;have:=(bL.1 A) p hp;simp only [Value.int.injEq,jD] at v;simp [v] at this
 refine ⟨_,h,?_⟩;unfold fw;refine ⟨q,J,λ_=>⟨.map (D.push { key:=.int k2 n,val:=fnV g #[],born:=d }) (d+1),.skip,?_,⟨_,_,rfl,?_⟩,.skip rfl⟩⟩
 ·simp only [execOp,ho,h2,M,W,aq,Instr.mapUpdate,aN hd,ax,MapKept.run_getObj_map L,MapKept.run_checkKey (k:=.int k2 n) Q r,MapKept.run_findKey Q u,MapKept.run_setObj_map _ L,aB];rfl
 ·rw [Array.toList_push,List.map_append,List.map_append,K];rfl
theorem GE (k:TR ι s.T a.tmps) (C:WR ι s.H s.nb w) (Z:ι f=none) (h:effK P (opd s.T) s.H f o.op c=some z):∃e,c e=some z/\fw P ι f o a w e:=by
 cases j:o.op with
 | move x=>
  rw [j] at h;simp only [effK] at h;obtain ⟨v,p,h⟩:=ak h;exact ⟨_,h,.val (by simp only [execOp,j,aB]) (aZ k p)⟩
 | assign x=>
  rw [j] at h;simp only [effK] at h;obtain ⟨v,p,h⟩:=ak h;exact ⟨_,h,.val (by simp only [execOp,j,aB]) (aZ k p)⟩
 | pick q x y=>
  rw [j] at h;simp only [effK] at h;split at h
  ·rename_i t K;have p:=aZ k K;simp only [VR] at p;cases t
   ·simp only [af] at h;obtain ⟨v,A,h⟩:=ak h;exact ⟨_,h,.val (x:=a.eval y) (by simp [execOp,j,p,asBool]) (aZ k A)⟩
   ·simp only [aj] at h;obtain ⟨v,A,h⟩:=ak h;exact ⟨_,h,.val (x:=a.eval x) (by simp [execOp,j,p,asBool]) (aZ k A)⟩
  ·cases h
 | alloc t=>rw [j] at h;exact HE j h
 | makeMap t x=>rw [j] at h;exact BH j h
 | insert t m x y=>rw [j] at h;exact F4 j k C h
 | lookup t m x ok=>rw [j] at h;exact Fg j k C h
 | box t x=>rw [j] at h;exact O7 j k Z h
 | build t ps=>rw [j] at h;exact Ie j k h
 | buildSlice t n ps=>rw [j] at h;exact vX j k Z h
 | load t x=>rw [j] at h;exact L6 j k C h
 | makeSlice t x y=>rw [j] at h;exact xP j k h
 | store t x y=>rw [j] at h;exact Gz j k C h
 | nilCheck x=>
  rw [j] at h;simp only [effK] at h;split at h
  ·rename_i b off hx;have p:=aZ k hx;have A:=p;simp only [VR] at p;obtain ⟨r,h5,B⟩:=p;exact ⟨_,h,.val (x:=a.eval x) (by simp [execOp,j,B]) A⟩
  ·rename_i zz b jj off hx;have p:=aZ k hx;have A:=p;simp only [VR] at p;obtain ⟨r,h5,B⟩:=p;exact ⟨_,h,.val (x:=a.eval x) (by simp [execOp,j,B]) A⟩
  ·rename_i g l hx;have p:=aZ k hx;have A:=p;simp only [VR] at p;obtain ⟨S,B,_⟩:=p;obtain ⟨g',b',c',h7⟩:=wL g S;exact ⟨_,h,.val (x:=a.eval x) (by simp [execOp,j,B,h7]) A⟩
  ·rename_i b off n m hx;have p:=aZ k hx;have A:=p;simp only [VR] at p;obtain ⟨r,cp,_,_,_,B⟩:=p;exact ⟨_,h,.val (x:=a.eval x) (by simp [execOp,j,B]) A⟩
  ·rename_i t v hx;have p:=aZ k hx;have A:=p;simp only [VR] at p;obtain ⟨y,B,_⟩:=p;exact ⟨_,h,.val (x:=a.eval x) (by simp [execOp,j,B]) A⟩
  ·cases h
 | binOp op t x y yt=>
  rw [j] at h;simp only [effK] at h;obtain ⟨u,G,h⟩:=ak h;obtain ⟨v,p,h⟩:=ak h;split at h
  ·rename_i r V;have hx:=aZ k G;have hy:=aZ k p;obtain ⟨I,L⟩:=P6 V hx hy w;exact ⟨_,h,.val (x:=.bool r) (by simp only [execOp,j,aq,I,L,ax,aB]) (by simp [VR])⟩
  split at h
  ·rename_i r V;split at h
   case h_2=>cases h
   rename_i m rd F;obtain ⟨hm,h⟩:=dh h;obtain ⟨I,L⟩:=Qc V F (aD hm) C (aZ k G) (aZ k p) x y;exact ⟨_,h,.val (x:=.bool r) (by simp only [execOp,j,aq,I,L,ax,aB]) (by simp [VR])⟩
  obtain ⟨R,X,Q,Y,I,L⟩:=NT h (aZ k G) (aZ k p) x y w;exact ⟨_,Q,.val (x:=X) (by simp only [execOp,j,aq,I,L,ax,aB]) Y⟩
 | unOp op t x=>
  rw [j] at h;simp only [effK] at h;obtain ⟨u,G,h⟩:=ak h;obtain ⟨R,X,Q,Y,I⟩:=Rx (P:=P) h (aZ k G) w;exact ⟨_,Q,.val (x:=X) (by simp only [execOp,j,aq,I,ax,aB]) Y⟩
 | convert sr d x=>rw [j] at h;exact BD j k C h
 | next x str=>rw [j] at h;exact K3 j k C h
 | makeInterface t x=>
  rw [j] at h;simp only [effK] at h;obtain ⟨u,G,h⟩:=ak h;have p:=aZ k G;split at h
  ·cases h
  ·rename_i d O N;refine ⟨_,h,.val (x:=.iface t (a.eval x)) ?_ (by simp only [VR];exact ⟨_,rfl,p⟩)⟩;simp only [execOp,j,Instr.makeInterface,aq,aN N,ax];cases d<;>first | rfl | exact absurd rfl (O _)
  ·cases h
 | makeFunc fn first cap=>
  rw [j] at h;simp only [effK] at h;split at h
  ·rename_i g E;split at h
   case h_2=>cases h
   rename_i hb;obtain ⟨l,F,h⟩:=ak h;have J:=uV k F;have D:first=#[]:=by apply jv;simpa using E
   refine ⟨_,h,.val (x:=.func (.func g) #[] (cap.map a.eval)) ?_ (by simp only [VR];exact ⟨_,(CM hb _).symm,by simpa using J⟩)⟩;simp only [execOp,j,Instr.makeFunc,D,D1,aq,aB,ax]
  ·rename_i g _ _ E;split at h
   ·rename_i M;obtain ⟨l,F,h⟩:=ak h;have J:=uV k F;have hcap':cap=#[]:=by apply jv;simpa using M
    refine ⟨_,h,.val (x:=.func (.func g) (first.map a.eval) #[]) ?_ (by simp only [VR];exact ⟨_,(KP g _).symm,by simpa using J⟩)⟩;simp only [execOp,j,Instr.makeFunc,hcap',D1,aq,aB,ax]
   ·cases h
  ·cases h
 | slice t x lo hi mx=>
  rw [j] at h;cases mx with
  | none=>exact JD j k C h
  | some m=>exact Fo j k C h
 | fieldAddr t x i=>rw [j] at h;exact yh j k h
 | field t x i=>rw [j] at h;exact GB j k h
 | indexAddr t x i=>rw [j] at h;exact xQ j k C h
 | index t x i=>rw [j] at h;exact He j k h
 | range t x=>rw [j] at h;exact IC j k h
 | extract x i=>
  rw [j] at h;simp only [effK] at h;split at h
  ·rename_i l hx;obtain ⟨v,p,h⟩:=ak h;have F:=aZ k hx;simp only [VR] at F;obtain ⟨S,B,U⟩:=F;obtain ⟨y,hy,W⟩:=U.get p;have hy':S[i]?=some y:=by simpa using hy
   exact ⟨_,h,.val (x:=y) (by simp [execOp,j,B,Instr.extract,hy']) W⟩
  ·cases h
 | typeAssert x xt at_ ok=>
  rw [j] at h;simp only [effK] at h;split at h
  case h_2=>cases h
  rename_i t v hx;have p:=aZ k hx;simp only [VR] at p;obtain ⟨y,B,hy⟩:=p;split at h
  ·cases h
  ·rename_i d O N;split at h
   case h_2=>cases h
   rename_i K;have K:=be K;subst K;cases ok with
   | true=>
    refine ⟨_,h,.val (x:=.tuple #[y,.bool true]) ?_ (by simp only [VR,VRs];exact ⟨_,rfl,y,[.bool true],rfl,hy,_,[],rfl,rfl,rfl⟩)⟩;simp only [execOp,j,B,Instr.typeAssert,aq,aN N,ax];cases d<;>first | simp | exact absurd rfl (O _)
   | false=>
    refine ⟨_,h,.val (x:=y) ?_ hy⟩;simp only [execOp,j,B,Instr.typeAssert,aq,aN N,ax];cases d<;>first | simp | exact absurd rfl (O _)
  ·cases h
 | call cl=>rw [j] at h;exact J9 j k C h
 | _=>rw [j] at h;simp [effK] at h
end ops
end Go.Abs
