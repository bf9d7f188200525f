
/- Comparisons of values: what the abstract one says of the model's own.
   Conditions: none; generic over the program. -/
import Derived.Test.YtfiponokimbeeaaGreatDoorAbsD
set_option linter.unusedSimpArgs false
set_option linter.unusedVariables false
namespace Go.Abs
variable {P:Program}
def mY (P:Program) (t:TypeId) (X:Array Value):Value:=if bW P t then .agg X else X.getD 0 undef
theorem vW {t:TypeId} {d:TypeDesc} (a:P.underlying t=some d) {X:Array Value} {off:Nat} (h:bW P t=false->off<X.size/\0<P.cellsOf t) (w:World):
  (part t X off).run P w=.ok (mY P t (X.extract off (off+P.cellsOf t))) w:=by
 obtain ⟨i,hi⟩:=mW a;unfold mY;cases b:bW P t with
 | true=>simp [part,kA a,b,gj hi]
 | false=>
  obtain ⟨c,f⟩:=h b;simp only [part,aw,kA a,b,ay,br,aA];have:X[off]?=some X[off]:=by simp [c]
  rw [this];have e:(X.extract off (off+P.cellsOf t))[0]?=some X[off]:=by
   rw [Array.getElem?_extract,ae (by omega)];simp [c]
  simp [qU,e]
theorem VRs.extract {ι:Inj} {l:List V} {X:Array Value} (h:VRs ι l X.toList) (o n:Nat):VRs ι ((l.drop o).take n) (X.extract o (o+n)).toList:=by
 have:=(h.drop o).take n;have e:(X.extract o (o+n)).toList=(X.toList.drop o).take n:=by
  simp [Array.toList_extract,List.extract]
 rw [e];exact this
def EqOK (P:Program) (ι:Inj) (e:TypeId->List V->List V->Option Bool) (d:Nat):Prop:=
 ∀t c a b (X Y:Array Value),e t c a=some b->VRs ι c X.toList->VRs ι a Y.toList->
  (∃f,P.underlying t=some f)/\(bW P t=false->0<c.length/\0<a.length)/\∀w,(Op.equalIn d t (mY P t X) (mY P t Y)).run P w=.ok b w
theorem KG {ι:Inj} {rec:TypeId->List V->List V->Option Bool} {d:Nat} (hr:EqOK P ι rec d) {xs ys:List V} {X Y:Array Value} (hx:VRs ι xs X.toList) (hy:VRs ι ys Y.toList):
  ∀(fs:List Field) (b:Bool),eqFs rec P.cellsOf xs ys fs=some b->∀w,(Op.eqFields d X Y fs).run P w=.ok b w
 | [],b,h,w=>by simp only [eqFs,au] at h;subst h;simp [Op.eqFields]
 | f::fs,b,h,w=>by
  simp only [eqFs] at h;split at h
  ·cases h
  ·rename_i hn;split at h
   ·rename_i b1 h1;split at h
    ·rename_i b2 h2;simp only [au] at h;subst h;have hn':f.name≠ "_":=by simpa using hn
     obtain ⟨⟨td,htd⟩,hpos,hrun⟩:=hr _ _ _ _ _ _ h1 (hx.extract f.offset (P.cellsOf f.type)) (hy.extract f.offset (P.cellsOf f.type));have hxl:=hx.length;have hyl:=hy.length;simp only [Ln] at hxl hyl;have hp1:bW P f.type=false->f.offset<X.size/\0<P.cellsOf f.type:=by
      intro ha;obtain ⟨g,_⟩:=hpos ha;simp only [da,bR] at g;omega
     have hp2:bW P f.type=false->f.offset<Y.size/\0<P.cellsOf f.type:=by
      intro ha;obtain ⟨_,g⟩:=hpos ha;simp only [da,bR] at g;omega
     simp only [Op.eqFields,hn',ne_eq,FC,aJ,aw,vW htd hp1,vW htd hp2,ay,hrun];cases b1
     ·simp
     ·simpa using KG hr hx hy fs b2 h2 w
    ·cases h
   ·cases h
def sI (d:Nat) (e:TypeId) (n:Nat) (X Y:Array Value):List Nat->Sem Bool
 | []=>pure true
 | i::l=>do
  let a <-part e X (i*n);let b <-part e Y (i*n);let r <-Op.equalIn d e a b
  if (!r)=true then pure false else sI d e n X Y l
theorem uT (d:Nat) {t e:TypeId} {len:Nat} {i:TypeInfo} (X Y:Array Value) (h:P.underlying t=some (.array len e)) (hi:P.info? e=some i) (w:World):
  (Op.equalIn (d+1) t (.agg X) (.agg Y)).run P w=(sI d e (P.cellsOf e) X Y (List.range' 0 len)).run P w:=by
 simp only [Op.equalIn,aw,aV h,ay,gj hi];rw [Std.Legacy.Range.forIn_eq_forIn_range'];simp only [Std.Legacy.Range.size,sY,Fz,sS];generalize List.range' 0 len=l
 induction l generalizing w with
 | nil=>simp [sI]
 | cons j l ih=>
  simp only [List.forIn_cons,sI,aw,Sem.run_ite];generalize (part e X (j*P.cellsOf e)).run P w=n;cases n with
  | ok a g=>
   simp only [ay];generalize (part e Y (j*P.cellsOf e)).run P g=k;cases k with
   | ok b f=>
    simp only [ay];generalize (Op.equalIn d e a b).run P f=m;cases m with
    | ok r c=>
     cases r
     ·simp only [ay,ij,aJ,aD]
     ·simp only [ay,co,br,aA,aD];exact ih c
    | halt x c=>simp [Result.andThen]
   | halt x f=>simp [Result.andThen]
  | halt x g=>simp [Result.andThen]
theorem L8 {ι:Inj} {c:TypeId->List V->List V->Option Bool} {d:Nat} (q:EqOK P ι c d) {e:TypeId} {s r:List V} {X Y:Array Value} (hx:VRs ι s X.toList) (hy:VRs ι r Y.toList):
  ∀(n j:Nat) (b:Bool),eqAr (c e) (P.cellsOf e) s r n j=some b->∀w,(sI d e (P.cellsOf e) X Y (List.range' j n)).run P w=.ok b w
 | 0,j,b,h,w=>by simp only [eqAr,au] at h;subst h;simp [sI]
 | n+1,j,b,h,w=>by
  simp only [eqAr] at h;split at h
  ·rename_i b1 t;split at h
   ·rename_i b2 u;simp only [au] at h;subst h;obtain ⟨⟨v,f⟩,a,i⟩:=q _ _ _ _ _ _ t (hx.extract (j*P.cellsOf e) (P.cellsOf e)) (hy.extract (j*P.cellsOf e) (P.cellsOf e));have k:=hx.length;have l:=hy.length;simp only [Ln] at k l;have o:bW P e=false->j*P.cellsOf e<X.size/\0<P.cellsOf e:=by
     intro m;obtain ⟨g,_⟩:=a m;simp only [da,bR] at g;omega
    have p:bW P e=false->j*P.cellsOf e<Y.size/\0<P.cellsOf e:=by
     intro m;obtain ⟨_,g⟩:=a m;simp only [da,bR] at g;omega
    simp only [xg,sI,aw,vW f o,vW f p,ay,i];cases b1
    ·simp
    ·simpa using L8 q hx hy n (j+1) b2 u w
   ·cases h
  ·cases h
theorem yj (l:aa):(ByteArray.mk l.toArray).toList=l:=by
 rw [ByteArray.toList_eq]
theorem GF {ι:Inj}:∀(n d:Nat),EqOK P ι (eqC P n) (n+d)
 | 0,d=>λt x v b X Y h=>by simp [eqC] at h
 | n+1,d=>by
  intro t x v b X Y h hx hy;have ih:=GF (ι:=ι) n d;rw [show n+1+d=(n+d)+1 by omega];unfold eqC at h;split at h
  ·rename_i k c;split at h
   ·rename_i k1 a k2 g;split at h
    ·rename_i p;simp only [au] at h;subst h;have p:=kY p;subst p;simp only [VRs,VR] at hx hy;obtain ⟨_,_,j,rfl,rfl⟩:=hx;obtain ⟨_,_,m,rfl,rfl⟩:=hy;refine ⟨⟨_,c⟩,λ_=>by simp,λw=>?_⟩;have f:mY P t X=.int k1 a:=by simp [mY,bW,c,qU,<-qk,j]
     have l:mY P t Y=.int k1 g:=by simp [mY,bW,c,qU,<-qk,m]
     rw [f,l];exact run_equalIn_int w _ t k1 k a g c
    ·cases h
   ·cases h
  ·rename_i c;split at h
   ·rename_i a g;simp only [au] at h;subst h;simp only [VRs,VR] at hx hy;obtain ⟨_,_,j,rfl,rfl⟩:=hx;obtain ⟨_,_,m,rfl,rfl⟩:=hy;refine ⟨⟨_,c⟩,λ_=>by simp,λw=>?_⟩;have f:mY P t X=.bool a:=by simp [mY,bW,c,qU,<-qk,j]
    have l:mY P t Y=.bool g:=by simp [mY,bW,c,qU,<-qk,m]
    rw [f,l];exact run_equalIn_bool' w _ t a g c
   ·cases h
  ·rename_i c;split at h
   ·rename_i a g;simp only [au] at h;subst h;simp only [VRs,VR] at hx hy;obtain ⟨_,_,j,rfl,rfl⟩:=hx;obtain ⟨_,_,m,rfl,rfl⟩:=hy;refine ⟨⟨_,c⟩,λ_=>by simp,λw=>?_⟩;have f:mY P t X=.string ⟨a.toArray⟩:=by simp [mY,bW,c,qU,<-qk,j]
    have l:mY P t Y=.string ⟨g.toArray⟩:=by simp [mY,bW,c,qU,<-qk,m]
    rw [f,l,run_equalIn_string w _ t _ _ c,yj,yj]
   ·cases h
  ·rename_i u c;split at h
   ·cases h
   ·rename_i q;have s:P.fieldsOf t=u:=by simp [Program.fieldsOf,c]
    have f:∀X,mY P t X=.agg X:=λX=>by simp [mY,bW,c]
    refine ⟨⟨_,c⟩,λr=>by simp [bW,c] at r,λw=>?_⟩;rw [f,f,run_equalIn_struct w _ t X Y (by rw [s];exact c) q,s];exact KG ih hx hy _ _ h w
  ·rename_i len e c;split at h
   case h_2=>cases h
   rename_i o;have f:∀X,mY P t X=.agg X:=λX=>by simp [mY,bW,c]
   refine ⟨⟨_,c⟩,λr=>by simp [bW,c] at r,λw=>?_⟩;rw [f,f];obtain ⟨i,hi⟩:=bZ o;rw [uT _ X Y c hi];exact L8 ih hx hy _ _ _ h w
  ·cases h
end Go.Abs
