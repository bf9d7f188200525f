
/- Comparisons of values: what the abstract one says of the model's own.
   Conditions: none; generic over the program. -/
import Derived.Test.YthemneooekobkabGreatDoorAbsD
set_option linter.unusedSimpArgs false
set_option linter.unusedVariables false
namespace Go.Abs
variable {P:Program}
def nh (P:Program) (t:TypeId) (X:Array Value):Value:=if bY P t then .agg X else X.getD 0 undef
theorem vX {t:TypeId} {d:TypeDesc} (a:P.underlying t=some d) {X:Array Value} {off:Nat} (h:bY P t=false->off<X.size/\0<P.cellsOf t) (w:World):
  (part t X off).run P w=.ok (nh P t (X.extract off (off+P.cellsOf t))) w:=by
 obtain ⟨i,hi⟩:=nk a;unfold nh;cases b:bY P t with
 | true=>simp [part,kq a,b,gi hi]
 | false=>
  obtain ⟨c,f⟩:=h b;simp only [part,ax,kq a,b,az,bw,aC];have:X[off]?=some X[off]:=by simp [c]
  rw [this];have e:(X.extract off (off+P.cellsOf t))[0]?=some X[off]:=by
   rw [Array.getElem?_extract,ae (by omega)];simp [c]
  simp [rK,e]
theorem VRs.extract {ι:Inj} {l:List V} {X:Array Value} (h:VRs ι l X.toList) (o n:Nat):VRs ι ((l.drop o).take n) (X.extract o (o+n)).toList:=by
 have:=(h.drop o).take n;have e:(X.extract o (o+n)).toList=(X.toList.drop o).take n:=by
  simp [Array.toList_extract,List.extract]
 rw [e];exact this
def EqOK (P:Program) (ι:Inj) (c:TypeId->List V->List V->Option Bool) (d:Nat):Prop:=
 ∀t a e b (X Y:Array Value),c t a e=some b->VRs ι a X.toList->VRs ι e Y.toList->
  (∃f,P.underlying t=some f)/\(bY P t=false->0<a.length/\0<e.length)/\∀w,(Op.equalIn d t (nh P t X) (nh P t Y)).run P w=.ok b w
theorem KZ {ι:Inj} {rec:TypeId->List V->List V->Option Bool} {d:Nat} (hr:EqOK P ι rec d) {xs ys:List V} {X Y:Array Value} (hx:VRs ι xs X.toList) (hy:VRs ι ys Y.toList):
  ∀(fs:List Field) (b:Bool),eqFs rec P.cellsOf xs ys fs=some b->∀w,(Op.eqFields d X Y fs).run P w=.ok b w
 | [],b,h,w=>by simp only [eqFs,av] at h;subst h;simp [Op.eqFields]
 | f::fs,b,h,w=>by
  simp only [eqFs] at h;split at h
  ·cases h
  ·rename_i hn;split at h
   ·rename_i b1 h1;split at h
    ·rename_i b2 h2;simp only [av] at h;subst h;have hn':f.name≠ "_":=by simpa using hn
     obtain ⟨⟨td,htd⟩,hpos,hrun⟩:=hr _ _ _ _ _ _ h1 (hx.extract f.offset (P.cellsOf f.type)) (hy.extract f.offset (P.cellsOf f.type));have hxl:=hx.length;have hyl:=hy.length;simp only [NR] at hxl hyl;have hp1:bY P f.type=false->f.offset<X.size/\0<P.cellsOf f.type:=by
      intro ha;obtain ⟨g,_⟩:=hpos ha;simp only [dq,bP] at g;omega
     have hp2:bY P f.type=false->f.offset<Y.size/\0<P.cellsOf f.type:=by
      intro ha;obtain ⟨_,g⟩:=hpos ha;simp only [dq,bP] at g;omega
     simp only [Op.eqFields,hn',ne_eq,GB,aO,ax,vX htd hp1,vX htd hp2,az,hrun];cases b1
     ·simp
     ·simpa using KZ hr hx hy fs b2 h2 w
    ·cases h
   ·cases h
def tN (d:Nat) (e:TypeId) (n:Nat) (X Y:Array Value):List Nat->Sem Bool
 | []=>pure true
 | i::l=>do
  let a <-part e X (i*n);let b <-part e Y (i*n);let r <-Op.equalIn d e a b
  if (!r)=true then pure false else tN d e n X Y l
theorem vj (d:Nat) {t e:TypeId} {len:Nat} {i:TypeInfo} (X Y:Array Value) (h:P.underlying t=some (.array len e)) (hi:P.info? e=some i) (w:World):
  (Op.equalIn (d+1) t (.agg X) (.agg Y)).run P w=(tN d e (P.cellsOf e) X Y (List.range' 0 len)).run P w:=by
 simp only [Op.equalIn,ax,aZ h,az,gi hi];rw [Std.Legacy.Range.forIn_eq_forIn_range'];simp only [Std.Legacy.Range.size,qT,E0,tz];generalize List.range' 0 len=l
 induction l generalizing w with
 | nil=>simp [tN]
 | cons j l ih=>
  simp only [List.forIn_cons,tN,ax,Sem.run_ite];generalize (part e X (j*P.cellsOf e)).run P w=n;cases n with
  | ok a f=>
   simp only [az];generalize (part e Y (j*P.cellsOf e)).run P f=k;cases k with
   | ok b c=>
    simp only [az];generalize (Op.equalIn d e a b).run P c=m;cases m with
    | ok r g=>
     cases r
     ·simp only [az,i7,aO,aD]
     ·simp only [az,cZ,bw,aC,aD];exact ih g
    | halt x g=>simp [Result.andThen]
   | halt x c=>simp [Result.andThen]
  | halt x f=>simp [Result.andThen]
theorem Oa {ι:Inj} {c:TypeId->List V->List V->Option Bool} {d:Nat} (q:EqOK P ι c d) {e:TypeId} {s r:List V} {X Y:Array Value} (hx:VRs ι s X.toList) (hy:VRs ι r Y.toList):
  ∀(n j:Nat) (b:Bool),eqAr (c e) (P.cellsOf e) s r n j=some b->∀w,(tN d e (P.cellsOf e) X Y (List.range' j n)).run P w=.ok b w
 | 0,j,b,h,w=>by simp only [eqAr,av] at h;subst h;simp [tN]
 | n+1,j,b,h,w=>by
  simp only [eqAr] at h;split at h
  ·rename_i b1 u;split at h
   ·rename_i b2 t;simp only [av] at h;subst h;obtain ⟨⟨v,f⟩,a,i⟩:=q _ _ _ _ _ _ u (hx.extract (j*P.cellsOf e) (P.cellsOf e)) (hy.extract (j*P.cellsOf e) (P.cellsOf e));have m:=hx.length;have p:=hy.length;simp only [NR] at m p;have o:bY P e=false->j*P.cellsOf e<X.size/\0<P.cellsOf e:=by
     intro k;obtain ⟨g,_⟩:=a k;simp only [dq,bP] at g;omega
    have l:bY P e=false->j*P.cellsOf e<Y.size/\0<P.cellsOf e:=by
     intro k;obtain ⟨_,g⟩:=a k;simp only [dq,bP] at g;omega
    simp only [xJ,tN,ax,vX f o,vX f l,az,i];cases b1
    ·simp
    ·simpa using Oa q hx hy n (j+1) b2 t w
   ·cases h
  ·cases h
theorem yU (l:aa):(ByteArray.mk l.toArray).toList=l:=by
 rw [ByteArray.toList_eq]
theorem GY {ι:Inj}:∀(n d:Nat),EqOK P ι (eqC P n) (n+d)
 | 0,d=>λt v u b X Y h=>by simp [eqC] at h
 | n+1,d=>by
  intro t v u b X Y h hx hy;have ih:=GY (ι:=ι) n d;rw [show n+1+d=(n+d)+1 by omega];unfold eqC at h;split at h
  ·rename_i k c;split at h
   ·rename_i k1 a k2 g;split at h
    ·rename_i r;simp only [av] at h;subst h;have r:=kG r;subst r;simp only [VRs,VR] at hx hy;obtain ⟨_,_,l,rfl,rfl⟩:=hx;obtain ⟨_,_,j,rfl,rfl⟩:=hy;refine ⟨⟨_,c⟩,λ_=>by simp,λw=>?_⟩;have f:nh P t X=.int k1 a:=by simp [nh,bY,c,rK,<-qM,l]
     have o:nh P t Y=.int k1 g:=by simp [nh,bY,c,rK,<-qM,j]
     rw [f,o];exact run_equalIn_int w _ t k1 k a g c
    ·cases h
   ·cases h
  ·rename_i c;split at h
   ·rename_i a g;simp only [av] at h;subst h;simp only [VRs,VR] at hx hy;obtain ⟨_,_,l,rfl,rfl⟩:=hx;obtain ⟨_,_,j,rfl,rfl⟩:=hy;refine ⟨⟨_,c⟩,λ_=>by simp,λw=>?_⟩;have f:nh P t X=.bool a:=by simp [nh,bY,c,rK,<-qM,l]
    have o:nh P t Y=.bool g:=by simp [nh,bY,c,rK,<-qM,j]
    rw [f,o];exact run_equalIn_bool' w _ t a g c
   ·cases h
  ·rename_i c;split at h
   ·rename_i a g;simp only [av] at h;subst h;simp only [VRs,VR] at hx hy;obtain ⟨_,_,l,rfl,rfl⟩:=hx;obtain ⟨_,_,j,rfl,rfl⟩:=hy;refine ⟨⟨_,c⟩,λ_=>by simp,λw=>?_⟩;have f:nh P t X=.string ⟨a.toArray⟩:=by simp [nh,bY,c,rK,<-qM,l]
    have o:nh P t Y=.string ⟨g.toArray⟩:=by simp [nh,bY,c,rK,<-qM,j]
    rw [f,o,run_equalIn_string w _ t _ _ c,yU,yU]
   ·cases h
  ·rename_i x c;split at h
   ·cases h
   ·rename_i p;have s:P.fieldsOf t=x:=by simp [Program.fieldsOf,c]
    have f:∀X,nh P t X=.agg X:=λX=>by simp [nh,bY,c]
    refine ⟨⟨_,c⟩,λq=>by simp [bY,c] at q,λw=>?_⟩;rw [f,f,run_equalIn_struct w _ t X Y (by rw [s];exact c) p,s];exact KZ ih hx hy _ _ h w
  ·rename_i len e c;split at h
   case h_2=>cases h
   rename_i m;have f:∀X,nh P t X=.agg X:=λX=>by simp [nh,bY,c]
   refine ⟨⟨_,c⟩,λq=>by simp [bY,c] at q,λw=>?_⟩;rw [f,f];obtain ⟨i,hi⟩:=ca m;rw [vj _ X Y c hi];exact Oa ih hx hy _ _ _ h w
  ·cases h
end Go.Abs
