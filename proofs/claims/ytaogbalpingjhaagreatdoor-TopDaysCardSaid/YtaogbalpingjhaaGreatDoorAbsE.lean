
/- Comparisons of values: what the abstract one says of the model's own.
   Conditions: none; generic over the program. -/
import Derived.Test.YtaogbalpingjhaaGreatDoorAbsD
set_option linter.unusedSimpArgs false
set_option linter.unusedVariables false
namespace Go.Abs
variable {P:Program}
def i6 (P:Program) (t:TypeId) (X:Array Value):Value:=if bc P t then .agg X else X.getD 0 undef
theorem pJ {t:TypeId} {d:TypeDesc} (b:P.underlying t=some d) {X:Array Value} {off:Nat} (h:bc P t=false->off<X.size/\0<P.cellsOf t) (w:World):
  (part t X off).run P w=.ok (i6 P t (X.extract off (off+P.cellsOf t))) w:=by
 obtain ⟨i,hi⟩:=ja b;unfold i6;cases a:bc P t with
 | true=>simp [part,fR b,a,db hi]
 | false=>
  obtain ⟨c,f⟩:=h a;simp only [part,ak,fR b,a,aq,bT,aE];have:X[off]?=some X[off]:=by simp [c]
  rw [this];have e:(X.extract off (off+P.cellsOf t))[0]?=some X[off]:=by
   rw [Array.getElem?_extract,ad (by omega)];simp [c]
  simp [lB,e]
theorem VRs.extract {ι:Inj} {l:List V} {X:Array Value} (h:VRs ι l X.toList) (o n:Nat):VRs ι ((l.drop o).take n) (X.extract o (o+n)).toList:=by
 have:=(h.drop o).take n;have e:(X.extract o (o+n)).toList=(X.toList.drop o).take n:=by
  simp [Array.toList_extract,List.extract]
 rw [e];exact this
def EqOK (P:Program) (ι:Inj) (a:TypeId->List V->List V->Option Bool) (d:Nat):Prop:=
 ∀t c e b (X Y:Array Value),a t c e=some b->VRs ι c X.toList->VRs ι e Y.toList->
  (∃f,P.underlying t=some f)/\(bc P t=false->0<c.length/\0<e.length)/\∀w,(Op.equalIn d t (i6 P t X) (i6 P t Y)).run P w=.ok b w
theorem CV {ι:Inj} {rec:TypeId->List V->List V->Option Bool} {d:Nat} (hr:EqOK P ι rec d) {xs ys:List V} {X Y:Array Value} (hx:VRs ι xs X.toList) (hy:VRs ι ys Y.toList):
  ∀(fs:List Field) (b:Bool),eqFs rec P.cellsOf xs ys fs=some b->∀w,(Op.eqFields d X Y fs).run P w=.ok b w
 | [],b,h,w=>by simp only [eqFs,ae] at h;subst h;simp [Op.eqFields]
 | f::fs,b,h,w=>by
  simp only [eqFs] at h;split at h
  ·cases h
  ·rename_i hn;split at h
   ·rename_i b1 h1;split at h
    ·rename_i b2 h2;simp only [ae] at h;subst h;have hn':f.name≠ "_":=by simpa using hn
     obtain ⟨⟨td,htd⟩,hpos,hrun⟩:=hr _ _ _ _ _ _ h1 (hx.extract f.offset (P.cellsOf f.type)) (hy.extract f.offset (P.cellsOf f.type));have hxl:=hx.length;have hyl:=hy.length;simp only [CM] at hxl hyl;have hp1:bc P f.type=false->f.offset<X.size/\0<P.cellsOf f.type:=by
      intro ha;obtain ⟨g,_⟩:=hpos ha;simp only [eH,km] at g;omega
     have hp2:bc P f.type=false->f.offset<Y.size/\0<P.cellsOf f.type:=by
      intro ha;obtain ⟨_,g⟩:=hpos ha;simp only [eH,km] at g;omega
     simp only [Op.eqFields,hn',ne_eq,wM,aY,ak,pJ htd hp1,pJ htd hp2,aq,hrun];cases b1
     ·simp
     ·simpa using CV hr hx hy fs b2 h2 w
    ·cases h
   ·cases h
def m9 (d:Nat) (e:TypeId) (n:Nat) (X Y:Array Value):List Nat->Sem Bool
 | []=>pure true
 | i::l=>do
  let a <-part e X (i*n);let b <-part e Y (i*n);let r <-Op.equalIn d e a b
  if (!r)=true then pure false else m9 d e n X Y l
theorem oQ (d:Nat) {t e:TypeId} {len:Nat} {i:TypeInfo} (X Y:Array Value) (k:P.underlying t=some (.array len e)) (hi:P.info? e=some i) (w:World):
  (Op.equalIn (d+1) t (.agg X) (.agg Y)).run P w=(m9 d e (P.cellsOf e) X Y (List.range' 0 len)).run P w:=by
 simp only [Op.equalIn,ak,aH k,aq,db hi];rw [Std.Legacy.Range.forIn_eq_forIn_range'];simp only [Std.Legacy.Range.size,qN,wH,um];generalize List.range' 0 len=l
 induction l generalizing w with
 | nil=>simp [m9]
 | cons j l ih=>
  simp only [List.forIn_cons,m9,ak,Sem.run_ite];generalize (part e X (j*P.cellsOf e)).run P w=h;cases h with
  | ok a f=>
   simp only [aq];generalize (part e Y (j*P.cellsOf e)).run P f=n;cases n with
   | ok b g=>
    simp only [aq];generalize (Op.equalIn d e a b).run P g=m;cases m with
    | ok r c=>
     cases r
     ·simp only [aq,iJ,aY,au]
     ·simp only [aq,dJ,bT,aE,au];exact ih c
    | halt x c=>simp [Result.andThen]
   | halt x g=>simp [Result.andThen]
  | halt x f=>simp [Result.andThen]
theorem CQ {ι:Inj} {i:TypeId->List V->List V->Option Bool} {d:Nat} (s:EqOK P ι i d) {e:TypeId} {u t:List V} {X Y:Array Value} (r:VRs ι u X.toList) (k:VRs ι t Y.toList):
  ∀(n j:Nat) (b:Bool),eqAr (i e) (P.cellsOf e) u t n j=some b->∀w,(m9 d e (P.cellsOf e) X Y (List.range' j n)).run P w=.ok b w
 | 0,j,b,h,w=>by simp only [eqAr,ae] at h;subst h;simp [m9]
 | n+1,j,b,h,w=>by
  simp only [eqAr] at h;split at h
  ·rename_i x y;split at h
   ·rename_i z v;simp only [ae] at h;subst h;obtain ⟨⟨A,f⟩,a,c⟩:=s _ _ _ _ _ _ y (r.extract (j*P.cellsOf e) (P.cellsOf e)) (k.extract (j*P.cellsOf e) (P.cellsOf e));have o:=r.length;have q:=k.length;simp only [CM] at o q;have m:bc P e=false->j*P.cellsOf e<X.size/\0<P.cellsOf e:=by
     intro p;obtain ⟨g,_⟩:=a p;simp only [eH,km] at g;omega
    have l:bc P e=false->j*P.cellsOf e<Y.size/\0<P.cellsOf e:=by
     intro p;obtain ⟨_,g⟩:=a p;simp only [eH,km] at g;omega
    simp only [wv,m9,ak,pJ f m,pJ f l,aq,c];cases x
    ·simp
    ·simpa using CQ s r k n (j+1) z v w
   ·cases h
  ·cases h
theorem rQ (l:aa):(ByteArray.mk l.toArray).toList=l:=by
 rw [ByteArray.toList_eq]
theorem xR {ι:Inj}:∀(n d:Nat),EqOK P ι (eqC P n) (n+d)
 | 0,d=>λt x y b X Y h=>by simp [eqC] at h
 | n+1,d=>by
  intro t x y b X Y h j g;have ih:=xR (ι:=ι) n d;rw [show n+1+d=(n+d)+1 by omega];unfold eqC at h;split at h
  ·rename_i k c;split at h
   ·rename_i k1 a k2 l;split at h
    ·rename_i u;simp only [ae] at h;subst h;have u:=gm u;subst u;simp only [VRs,VR] at j g;obtain ⟨_,_,o,rfl,rfl⟩:=j;obtain ⟨_,_,q,rfl,rfl⟩:=g;refine ⟨⟨_,c⟩,λ_=>by simp,λw=>?_⟩;have f:i6 P t X=.int k1 a:=by simp [i6,bc,c,lB,<-lk,o]
     have p:i6 P t Y=.int k1 l:=by simp [i6,bc,c,lB,<-lk,q]
     rw [f,p];exact run_equalIn_int w _ t k1 k a l c
    ·cases h
   ·cases h
  ·rename_i c;split at h
   ·rename_i a l;simp only [ae] at h;subst h;simp only [VRs,VR] at j g;obtain ⟨_,_,o,rfl,rfl⟩:=j;obtain ⟨_,_,q,rfl,rfl⟩:=g;refine ⟨⟨_,c⟩,λ_=>by simp,λw=>?_⟩;have f:i6 P t X=.bool a:=by simp [i6,bc,c,lB,<-lk,o]
    have p:i6 P t Y=.bool l:=by simp [i6,bc,c,lB,<-lk,q]
    rw [f,p];exact run_equalIn_bool' w _ t a l c
   ·cases h
  ·rename_i c;split at h
   ·rename_i a l;simp only [ae] at h;subst h;simp only [VRs,VR] at j g;obtain ⟨_,_,o,rfl,rfl⟩:=j;obtain ⟨_,_,q,rfl,rfl⟩:=g;refine ⟨⟨_,c⟩,λ_=>by simp,λw=>?_⟩;have f:i6 P t X=.string ⟨a.toArray⟩:=by simp [i6,bc,c,lB,<-lk,o]
    have p:i6 P t Y=.string ⟨l.toArray⟩:=by simp [i6,bc,c,lB,<-lk,q]
    rw [f,p,run_equalIn_string w _ t _ _ c,rQ,rQ]
   ·cases h
  ·rename_i z c;split at h
   ·cases h
   ·rename_i s;have v:P.fieldsOf t=z:=by simp [Program.fieldsOf,c]
    have f:∀X,i6 P t X=.agg X:=λX=>by simp [i6,bc,c]
    refine ⟨⟨_,c⟩,λr=>by simp [bc,c] at r,λw=>?_⟩;rw [f,f,run_equalIn_struct w _ t X Y (by rw [v];exact c) s,v];exact CV ih j g _ _ h w
  ·rename_i len e c;split at h
   case h_2=>cases h
   rename_i m;have f:∀X,i6 P t X=.agg X:=λX=>by simp [i6,bc,c]
   refine ⟨⟨_,c⟩,λr=>by simp [bc,c] at r,λw=>?_⟩;rw [f,f];obtain ⟨i,hi⟩:=bg m;rw [oQ _ X Y c hi];exact CQ ih j g _ _ _ h w
  ·cases h
end Go.Abs
