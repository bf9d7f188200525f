
/- Comparisons of values: what the abstract one says of the model's own.
   Conditions: none; generic over the program. -/
import Derived.Test.YthemneooekobkaaGreatDoorAbsD
set_option linter.unusedSimpArgs false
set_option linter.unusedVariables false
namespace Go.Abs
variable {P:Program}
def kT (P:Program) (t:TypeId) (X:Array Value):Value:=if bJ P t then .agg X else X.getD 0 undef
theorem tn {t:TypeId} {d:TypeDesc} (a:P.underlying t=some d) {X:Array Value} {off:Nat} (h:bJ P t=false->off<X.size/\0<P.cellsOf t) (w:World):
  (part t X off).run P w=.ok (kT P t (X.extract off (off+P.cellsOf t))) w:=by
 obtain ⟨i,hi⟩:=lj a;unfold kT;cases b:bJ P t with
 | true=>simp [part,jk a,b,fb hi]
 | false=>
  obtain ⟨c,f⟩:=h b;simp only [part,ax,jk a,b,az,bq,aE];have:X[off]?=some X[off]:=by simp [c]
  rw [this];have e:(X.extract off (off+P.cellsOf t))[0]?=some X[off]:=by
   rw [Array.getElem?_extract,ae (by omega)];simp [c]
  simp [oy,e]
theorem VRs.extract {ι:Inj} {l:List V} {X:Array Value} (h:VRs ι l X.toList) (o n:Nat):VRs ι ((l.drop o).take n) (X.extract o (o+n)).toList:=by
 have:=(h.drop o).take n;have e:(X.extract o (o+n)).toList=(X.toList.drop o).take n:=by
  simp [Array.toList_extract,List.extract]
 rw [e];exact this
def EqOK (P:Program) (ι:Inj) (e:TypeId->List V->List V->Option Bool) (d:Nat):Prop:=
 ∀t a c b (X Y:Array Value),e t a c=some b->VRs ι a X.toList->VRs ι c Y.toList->
  (∃f,P.underlying t=some f)/\(bJ P t=false->0<a.length/\0<c.length)/\∀w,(Op.equalIn d t (kT P t X) (kT P t Y)).run P w=.ok b w
theorem IB {ι:Inj} {rec:TypeId->List V->List V->Option Bool} {d:Nat} (hr:EqOK P ι rec d) {xs ys:List V} {X Y:Array Value} (hx:VRs ι xs X.toList) (hy:VRs ι ys Y.toList):
  ∀(fs:List Field) (b:Bool),eqFs rec P.cellsOf xs ys fs=some b->∀w,(Op.eqFields d X Y fs).run P w=.ok b w
 | [],b,h,w=>by simp only [eqFs,aq] at h;subst h;simp [Op.eqFields]
 | f::fs,b,h,w=>by
  simp only [eqFs] at h;split at h
  ·cases h
  ·rename_i hn;split at h
   ·rename_i b1 h1;split at h
    ·rename_i b2 h2;simp only [aq] at h;subst h;have hn':f.name≠ "_":=by simpa using hn
     obtain ⟨⟨td,htd⟩,hpos,hrun⟩:=hr _ _ _ _ _ _ h1 (hx.extract f.offset (P.cellsOf f.type)) (hy.extract f.offset (P.cellsOf f.type));have hxl:=hx.length;have hyl:=hy.length;simp only [GB] at hxl hyl;have hp1:bJ P f.type=false->f.offset<X.size/\0<P.cellsOf f.type:=by
      intro ha;obtain ⟨g,_⟩:=hpos ha;simp only [cN,cZ] at g;omega
     have hp2:bJ P f.type=false->f.offset<Y.size/\0<P.cellsOf f.type:=by
      intro ha;obtain ⟨_,g⟩:=hpos ha;simp only [cN,cZ] at g;omega
     simp only [Op.eqFields,hn',ne_eq,Bz,aJ,ax,tn htd hp1,tn htd hp2,az,hrun];cases b1
     ·simp
     ·simpa using IB hr hx hy fs b2 h2 w
    ·cases h
   ·cases h
def qE (d:Nat) (e:TypeId) (n:Nat) (X Y:Array Value):List Nat->Sem Bool
 | []=>pure true
 | i::l=>do
  let a <-part e X (i*n);let b <-part e Y (i*n);let r <-Op.equalIn d e a b
  if (!r)=true then pure false else qE d e n X Y l
theorem rW (d:Nat) {t e:TypeId} {len:Nat} {i:TypeInfo} (X Y:Array Value) (k:P.underlying t=some (.array len e)) (hi:P.info? e=some i) (w:World):
  (Op.equalIn (d+1) t (.agg X) (.agg Y)).run P w=(qE d e (P.cellsOf e) X Y (List.range' 0 len)).run P w:=by
 simp only [Op.equalIn,ax,aS k,az,fb hi];rw [Std.Legacy.Range.forIn_eq_forIn_range'];simp only [Std.Legacy.Range.size,nA,Bm,qm];generalize List.range' 0 len=l
 induction l generalizing w with
 | nil=>simp [qE]
 | cons j l ih=>
  simp only [List.forIn_cons,qE,ax,Sem.run_ite];generalize (part e X (j*P.cellsOf e)).run P w=m;cases m with
  | ok a c=>
   simp only [az];generalize (part e Y (j*P.cellsOf e)).run P c=h;cases h with
   | ok b g=>
    simp only [az];generalize (Op.equalIn d e a b).run P g=n;cases n with
    | ok r f=>
     cases r
     ·simp only [az,ie,aJ,aC]
     ·simp only [az,cV,bq,aE,aC];exact ih f
    | halt x f=>simp [Result.andThen]
   | halt x g=>simp [Result.andThen]
  | halt x c=>simp [Result.andThen]
theorem G0 {ι:Inj} {i:TypeId->List V->List V->Option Bool} {d:Nat} (s:EqOK P ι i d) {e:TypeId} {t u:List V} {X Y:Array Value} (o:VRs ι t X.toList) (l:VRs ι u Y.toList):
  ∀(n j:Nat) (b:Bool),eqAr (i e) (P.cellsOf e) t u n j=some b->∀w,(qE d e (P.cellsOf e) X Y (List.range' j n)).run P w=.ok b w
 | 0,j,b,h,w=>by simp only [eqAr,aq] at h;subst h;simp [qE]
 | n+1,j,b,h,w=>by
  simp only [eqAr] at h;split at h
  ·rename_i b1 x;split at h
   ·rename_i b2 v;simp only [aq] at h;subst h;obtain ⟨⟨y,c⟩,a,f⟩:=s _ _ _ _ _ _ x (o.extract (j*P.cellsOf e) (P.cellsOf e)) (l.extract (j*P.cellsOf e) (P.cellsOf e));have p:=o.length;have q:=l.length;simp only [GB] at p q;have k:bJ P e=false->j*P.cellsOf e<X.size/\0<P.cellsOf e:=by
     intro m;obtain ⟨g,_⟩:=a m;simp only [cN,cZ] at g;omega
    have r:bJ P e=false->j*P.cellsOf e<Y.size/\0<P.cellsOf e:=by
     intro m;obtain ⟨_,g⟩:=a m;simp only [cN,cZ] at g;omega
    simp only [vb,qE,ax,tn c k,tn c r,az,f];cases b1
    ·simp
    ·simpa using G0 s o l n (j+1) b2 v w
   ·cases h
  ·cases h
theorem vA (l:aa):(ByteArray.mk l.toArray).toList=l:=by
 rw [ByteArray.toList_eq]
theorem Dl {ι:Inj}:∀(n d:Nat),EqOK P ι (eqC P n) (n+d)
 | 0,d=>λt x y b X Y h=>by simp [eqC] at h
 | n+1,d=>by
  intro t x y b X Y h j g;have ih:=Dl (ι:=ι) n d;rw [show n+1+d=(n+d)+1 by omega];unfold eqC at h;split at h
  ·rename_i k c;split at h
   ·rename_i k1 a k2 l;split at h
    ·rename_i s;simp only [aq] at h;subst h;have s:=jo s;subst s;simp only [VRs,VR] at j g;obtain ⟨_,_,q,rfl,rfl⟩:=j;obtain ⟨_,_,p,rfl,rfl⟩:=g;refine ⟨⟨_,c⟩,λ_=>by simp,λw=>?_⟩;have f:kT P t X=.int k1 a:=by simp [kT,bJ,c,oy,<-ow,q]
     have o:kT P t Y=.int k1 l:=by simp [kT,bJ,c,oy,<-ow,p]
     rw [f,o];exact run_equalIn_int w _ t k1 k a l c
    ·cases h
   ·cases h
  ·rename_i c;split at h
   ·rename_i a l;simp only [aq] at h;subst h;simp only [VRs,VR] at j g;obtain ⟨_,_,q,rfl,rfl⟩:=j;obtain ⟨_,_,p,rfl,rfl⟩:=g;refine ⟨⟨_,c⟩,λ_=>by simp,λw=>?_⟩;have f:kT P t X=.bool a:=by simp [kT,bJ,c,oy,<-ow,q]
    have o:kT P t Y=.bool l:=by simp [kT,bJ,c,oy,<-ow,p]
    rw [f,o];exact run_equalIn_bool' w _ t a l c
   ·cases h
  ·rename_i c;split at h
   ·rename_i a l;simp only [aq] at h;subst h;simp only [VRs,VR] at j g;obtain ⟨_,_,q,rfl,rfl⟩:=j;obtain ⟨_,_,p,rfl,rfl⟩:=g;refine ⟨⟨_,c⟩,λ_=>by simp,λw=>?_⟩;have f:kT P t X=.string ⟨a.toArray⟩:=by simp [kT,bJ,c,oy,<-ow,q]
    have o:kT P t Y=.string ⟨l.toArray⟩:=by simp [kT,bJ,c,oy,<-ow,p]
    rw [f,o,run_equalIn_string w _ t _ _ c,vA,vA]
   ·cases h
  ·rename_i z c;split at h
   ·cases h
   ·rename_i u;have v:P.fieldsOf t=z:=by simp [Program.fieldsOf,c]
    have f:∀X,kT P t X=.agg X:=λX=>by simp [kT,bJ,c]
    refine ⟨⟨_,c⟩,λr=>by simp [bJ,c] at r,λw=>?_⟩;rw [f,f,run_equalIn_struct w _ t X Y (by rw [v];exact c) u,v];exact IB ih j g _ _ h w
  ·rename_i len e c;split at h
   case h_2=>cases h
   rename_i m;have f:∀X,kT P t X=.agg X:=λX=>by simp [kT,bJ,c]
   refine ⟨⟨_,c⟩,λr=>by simp [bJ,c] at r,λw=>?_⟩;rw [f,f];obtain ⟨i,hi⟩:=bM m;rw [rW _ X Y c hi];exact G0 ih j g _ _ _ h w
  ·cases h
end Go.Abs
