
/- Comparisons of values: what the abstract one says of the model's own.
   Conditions: none; generic over the program. -/
import Derived.Test.YtfiponokimbeeaaGreatDoorAbsD
set_option linter.unusedSimpArgs false
set_option linter.unusedVariables false
namespace Go.Abs
variable {P:Program}
def lK (P:Program) (t:TypeId) (X:Array Value):Value:=if bI P t then .agg X else X.getD 0 undef
theorem tU {t:TypeId} {d:TypeDesc} (b:P.underlying t=some d) {X:Array Value} {off:Nat} (h:bI P t=false->off<X.size/\0<P.cellsOf t) (w:World):
  (part t X off).run P w=.ok (lK P t (X.extract off (off+P.cellsOf t))) w:=by
 obtain ⟨i,hi⟩:=lC b;unfold lK;cases a:bI P t with
 | true=>simp [part,jn b,a,fk hi]
 | false=>
  obtain ⟨c,f⟩:=h a;simp only [part,aw,jn b,a,az,bj,aE];have:X[off]?=some X[off]:=by simp [c]
  rw [this];have e:(X.extract off (off+P.cellsOf t))[0]?=some X[off]:=by
   rw [Array.getElem?_extract,ae (by omega)];simp [c]
  simp [oP,e]
theorem VRs.extract {ι:Inj} {l:List V} {X:Array Value} (h:VRs ι l X.toList) (o n:Nat):VRs ι ((l.drop o).take n) (X.extract o (o+n)).toList:=by
 have:=(h.drop o).take n;have e:(X.extract o (o+n)).toList=(X.toList.drop o).take n:=by
  simp [Array.toList_extract,List.extract]
 rw [e];exact this
def EqOK (P:Program) (ι:Inj) (c:TypeId->List V->List V->Option Bool) (d:Nat):Prop:=
 ∀t e a b (X Y:Array Value),c t e a=some b->VRs ι e X.toList->VRs ι a Y.toList->
  (∃f,P.underlying t=some f)/\(bI P t=false->0<e.length/\0<a.length)/\∀w,(Op.equalIn d t (lK P t X) (lK P t Y)).run P w=.ok b w
theorem Jp {ι:Inj} {rec:TypeId->List V->List V->Option Bool} {d:Nat} (hr:EqOK P ι rec d) {xs ys:List V} {X Y:Array Value} (hx:VRs ι xs X.toList) (hy:VRs ι ys Y.toList):
  ∀(fs:List Field) (b:Bool),eqFs rec P.cellsOf xs ys fs=some b->∀w,(Op.eqFields d X Y fs).run P w=.ok b w
 | [],b,h,w=>by simp only [eqFs,ak] at h;subst h;simp [Op.eqFields]
 | f::fs,b,h,w=>by
  simp only [eqFs] at h;split at h
  ·cases h
  ·rename_i hn;split at h
   ·rename_i b1 h1;split at h
    ·rename_i b2 h2;simp only [ak] at h;subst h;have hn':f.name≠ "_":=by simpa using hn
     obtain ⟨⟨td,htd⟩,hpos,hrun⟩:=hr _ _ _ _ _ _ h1 (hx.extract f.offset (P.cellsOf f.type)) (hy.extract f.offset (P.cellsOf f.type));have hxl:=hx.length;have hyl:=hy.length;simp only [JS] at hxl hyl;have hp1:bI P f.type=false->f.offset<X.size/\0<P.cellsOf f.type:=by
      intro ha;obtain ⟨g,_⟩:=hpos ha;simp only [e7,cu] at g;omega
     have hp2:bI P f.type=false->f.offset<Y.size/\0<P.cellsOf f.type:=by
      intro ha;obtain ⟨_,g⟩:=hpos ha;simp only [e7,cu] at g;omega
     simp only [Op.eqFields,hn',ne_eq,Ce,aI,aw,tU htd hp1,tU htd hp2,az,hrun];cases b1
     ·simp
     ·simpa using Jp hr hx hy fs b2 h2 w
    ·cases h
   ·cases h
def qQ (d:Nat) (e:TypeId) (n:Nat) (X Y:Array Value):List Nat->Sem Bool
 | []=>pure true
 | i::l=>do
  let a <-part e X (i*n);let b <-part e Y (i*n);let r <-Op.equalIn d e a b
  if (!r)=true then pure false else qQ d e n X Y l
theorem sS (d:Nat) {t e:TypeId} {len:Nat} {i:TypeInfo} (X Y:Array Value) (k:P.underlying t=some (.array len e)) (hi:P.info? e=some i) (w:World):
  (Op.equalIn (d+1) t (.agg X) (.agg Y)).run P w=(qQ d e (P.cellsOf e) X Y (List.range' 0 len)).run P w:=by
 simp only [Op.equalIn,aw,aR k,az,fk hi];rw [Std.Legacy.Range.forIn_eq_forIn_range'];simp only [Std.Legacy.Range.size,qF,DC,yF];generalize List.range' 0 len=l
 induction l generalizing w with
 | nil=>simp [qQ]
 | cons j l ih=>
  simp only [List.forIn_cons,qQ,aw,Sem.run_ite];generalize (part e X (j*P.cellsOf e)).run P w=m;cases m with
  | ok a f=>
   simp only [az];generalize (part e Y (j*P.cellsOf e)).run P f=h;cases h with
   | ok b c=>
    simp only [az];generalize (Op.equalIn d e a b).run P c=n;cases n with
    | ok r g=>
     cases r
     ·simp only [az,g9,aI,aD]
     ·simp only [az,cN,bj,aE,aD];exact ih g
    | halt x g=>simp [Result.andThen]
   | halt x c=>simp [Result.andThen]
  | halt x f=>simp [Result.andThen]
theorem I7 {ι:Inj} {i:TypeId->List V->List V->Option Bool} {d:Nat} (q:EqOK P ι i d) {e:TypeId} {s r:List V} {X Y:Array Value} (hx:VRs ι s X.toList) (hy:VRs ι r Y.toList):
  ∀(n j:Nat) (b:Bool),eqAr (i e) (P.cellsOf e) s r n j=some b->∀w,(qQ d e (P.cellsOf e) X Y (List.range' j n)).run P w=.ok b w
 | 0,j,b,h,w=>by simp only [eqAr,ak] at h;subst h;simp [qQ]
 | n+1,j,b,h,w=>by
  simp only [eqAr] at h;split at h
  ·rename_i b1 t;split at h
   ·rename_i b2 u;simp only [ak] at h;subst h;obtain ⟨⟨v,f⟩,a,c⟩:=q _ _ _ _ _ _ t (hx.extract (j*P.cellsOf e) (P.cellsOf e)) (hy.extract (j*P.cellsOf e) (P.cellsOf e));have k:=hx.length;have m:=hy.length;simp only [JS] at k m;have l:bI P e=false->j*P.cellsOf e<X.size/\0<P.cellsOf e:=by
     intro p;obtain ⟨g,_⟩:=a p;simp only [e7,cu] at g;omega
    have o:bI P e=false->j*P.cellsOf e<Y.size/\0<P.cellsOf e:=by
     intro p;obtain ⟨_,g⟩:=a p;simp only [e7,cu] at g;omega
    simp only [CO,qQ,aw,tU f l,tU f o,az,c];cases b1
    ·simp
    ·simpa using I7 q hx hy n (j+1) b2 u w
   ·cases h
  ·cases h
theorem wG (l:aa):(ByteArray.mk l.toArray).toList=l:=by
 rw [ByteArray.toList_eq]
theorem Ef {ι:Inj}:∀(n d:Nat),EqOK P ι (eqC P n) (n+d)
 | 0,d=>λt x v b X Y h=>by simp [eqC] at h
 | n+1,d=>by
  intro t x v b X Y h hx hy;have ih:=Ef (ι:=ι) n d;rw [show n+1+d=(n+d)+1 by omega];unfold eqC at h;split at h
  ·rename_i k c;split at h
   ·rename_i k1 a k2 g;split at h
    ·rename_i q;simp only [ak] at h;subst h;have q:=jE q;subst q;simp only [VRs,VR] at hx hy;obtain ⟨_,_,o,rfl,rfl⟩:=hx;obtain ⟨_,_,l,rfl,rfl⟩:=hy;refine ⟨⟨_,c⟩,λ_=>by simp,λw=>?_⟩;have f:lK P t X=.int k1 a:=by simp [lK,bI,c,oP,<-oH,o]
     have j:lK P t Y=.int k1 g:=by simp [lK,bI,c,oP,<-oH,l]
     rw [f,j];exact run_equalIn_int w _ t k1 k a g c
    ·cases h
   ·cases h
  ·rename_i c;split at h
   ·rename_i a g;simp only [ak] at h;subst h;simp only [VRs,VR] at hx hy;obtain ⟨_,_,o,rfl,rfl⟩:=hx;obtain ⟨_,_,l,rfl,rfl⟩:=hy;refine ⟨⟨_,c⟩,λ_=>by simp,λw=>?_⟩;have f:lK P t X=.bool a:=by simp [lK,bI,c,oP,<-oH,o]
    have j:lK P t Y=.bool g:=by simp [lK,bI,c,oP,<-oH,l]
    rw [f,j];exact run_equalIn_bool' w _ t a g c
   ·cases h
  ·rename_i c;split at h
   ·rename_i a g;simp only [ak] at h;subst h;simp only [VRs,VR] at hx hy;obtain ⟨_,_,o,rfl,rfl⟩:=hx;obtain ⟨_,_,l,rfl,rfl⟩:=hy;refine ⟨⟨_,c⟩,λ_=>by simp,λw=>?_⟩;have f:lK P t X=.string ⟨a.toArray⟩:=by simp [lK,bI,c,oP,<-oH,o]
    have j:lK P t Y=.string ⟨g.toArray⟩:=by simp [lK,bI,c,oP,<-oH,l]
    rw [f,j,run_equalIn_string w _ t _ _ c,wG,wG]
   ·cases h
  ·rename_i u c;split at h
   ·cases h
   ·rename_i r;have s:P.fieldsOf t=u:=by simp [Program.fieldsOf,c]
    have f:∀X,lK P t X=.agg X:=λX=>by simp [lK,bI,c]
    refine ⟨⟨_,c⟩,λp=>by simp [bI,c] at p,λw=>?_⟩;rw [f,f,run_equalIn_struct w _ t X Y (by rw [s];exact c) r,s];exact Jp ih hx hy _ _ h w
  ·rename_i len e c;split at h
   case h_2=>cases h
   rename_i m;have f:∀X,lK P t X=.agg X:=λX=>by simp [lK,bI,c]
   refine ⟨⟨_,c⟩,λp=>by simp [bI,c] at p,λw=>?_⟩;rw [f,f];obtain ⟨i,hi⟩:=bL m;rw [sS _ X Y c hi];exact I7 ih hx hy _ _ _ h w
  ·cases h
end Go.Abs
