
/- Comparisons of values: what the abstract one says of the model's own.
   Conditions: none; generic over the program. -/
import Derived.Test.YtfiponokimbeeaaGreatDoorAbsD
set_option linter.unusedSimpArgs false
set_option linter.unusedVariables false
namespace Go.Abs
variable {P:Program}
def mg (P:Program) (t:TypeId) (X:Array Value):Value:=if bJ P t then .agg X else X.getD 0 undef
theorem vd {t:TypeId} {d:TypeDesc} (b:P.underlying t=some d) {X:Array Value} {off:Nat} (h:bJ P t=false->off<X.size/\0<P.cellsOf t) (w:World):
  (part t X off).run P w=.ok (mg P t (X.extract off (off+P.cellsOf t))) w:=by
 obtain ⟨i,hi⟩:=mc b;unfold mg;cases a:bJ P t with
 | true=>simp [part,jm b,a,fw hi]
 | false=>
  obtain ⟨c,f⟩:=h a;simp only [part,aw,jm b,a,ay,bA,aC];have:X[off]?=some X[off]:=by simp [c]
  rw [this];have e:(X.extract off (off+P.cellsOf t))[0]?=some X[off]:=by
   rw [Array.getElem?_extract,ae (by omega)];simp [c]
  simp [qN,e]
theorem VRs.extract {ι:Inj} {l:List V} {X:Array Value} (h:VRs ι l X.toList) (o n:Nat):VRs ι ((l.drop o).take n) (X.extract o (o+n)).toList:=by
 have:=(h.drop o).take n;have e:(X.extract o (o+n)).toList=(X.toList.drop o).take n:=by
  simp [Array.toList_extract,List.extract]
 rw [e];exact this
def EqOK (P:Program) (ι:Inj) (e:TypeId->List V->List V->Option Bool) (d:Nat):Prop:=
 ∀t a c b (X Y:Array Value),e t a c=some b->VRs ι a X.toList->VRs ι c Y.toList->
  (∃f,P.underlying t=some f)/\(bJ P t=false->0<a.length/\0<c.length)/\∀w,(Op.equalIn d t (mg P t X) (mg P t Y)).run P w=.ok b w
theorem II {ι:Inj} {rec:TypeId->List V->List V->Option Bool} {d:Nat} (hr:EqOK P ι rec d) {xs ys:List V} {X Y:Array Value} (hx:VRs ι xs X.toList) (hy:VRs ι ys Y.toList):
  ∀(fs:List Field) (b:Bool),eqFs rec P.cellsOf xs ys fs=some b->∀w,(Op.eqFields d X Y fs).run P w=.ok b w
 | [],b,h,w=>by simp only [eqFs,ak] at h;subst h;simp [Op.eqFields]
 | f::fs,b,h,w=>by
  simp only [eqFs] at h;split at h
  ·cases h
  ·rename_i hn;split at h
   ·rename_i b1 h1;split at h
    ·rename_i b2 h2;simp only [ak] at h;subst h;have hn':f.name≠ "_":=by simpa using hn
     obtain ⟨⟨td,htd⟩,hpos,hrun⟩:=hr _ _ _ _ _ _ h1 (hx.extract f.offset (P.cellsOf f.type)) (hy.extract f.offset (P.cellsOf f.type));have hxl:=hx.length;have hyl:=hy.length;simp only [KV] at hxl hyl;have hp1:bJ P f.type=false->f.offset<X.size/\0<P.cellsOf f.type:=by
      intro ha;obtain ⟨g,_⟩:=hpos ha;simp only [fZ,cY] at g;omega
     have hp2:bJ P f.type=false->f.offset<Y.size/\0<P.cellsOf f.type:=by
      intro ha;obtain ⟨_,g⟩:=hpos ha;simp only [fZ,cY] at g;omega
     simp only [Op.eqFields,hn',ne_eq,Eb,aK,aw,vd htd hp1,vd htd hp2,ay,hrun];cases b1
     ·simp
     ·simpa using II hr hx hy fs b2 h2 w
    ·cases h
   ·cases h
def sw (d:Nat) (e:TypeId) (n:Nat) (X Y:Array Value):List Nat->Sem Bool
 | []=>pure true
 | i::l=>do
  let a <-part e X (i*n);let b <-part e Y (i*n);let r <-Op.equalIn d e a b
  if (!r)=true then pure false else sw d e n X Y l
theorem uj (d:Nat) {t e:TypeId} {len:Nat} {i:TypeInfo} (X Y:Array Value) (m:P.underlying t=some (.array len e)) (hi:P.info? e=some i) (w:World):
  (Op.equalIn (d+1) t (.agg X) (.agg Y)).run P w=(sw d e (P.cellsOf e) X Y (List.range' 0 len)).run P w:=by
 simp only [Op.equalIn,aw,aT m,ay,fw hi];rw [Std.Legacy.Range.forIn_eq_forIn_range'];simp only [Std.Legacy.Range.size,rZ,Dj,AD];generalize List.range' 0 len=l
 induction l generalizing w with
 | nil=>simp [sw]
 | cons j l ih=>
  simp only [List.forIn_cons,sw,aw,Sem.run_ite];generalize (part e X (j*P.cellsOf e)).run P w=k;cases k with
  | ok a c=>
   simp only [ay];generalize (part e Y (j*P.cellsOf e)).run P c=h;cases h with
   | ok b f=>
    simp only [ay];generalize (Op.equalIn d e a b).run P f=n;cases n with
    | ok r g=>
     cases r
     ·simp only [ay,iv,aK,aB]
     ·simp only [ay,cX,bA,aC,aB];exact ih g
    | halt x g=>simp [Result.andThen]
   | halt x f=>simp [Result.andThen]
  | halt x c=>simp [Result.andThen]
theorem It {ι:Inj} {f:TypeId->List V->List V->Option Bool} {d:Nat} (r:EqOK P ι f d) {e:TypeId} {s q:List V} {X Y:Array Value} (hx:VRs ι s X.toList) (hy:VRs ι q Y.toList):
  ∀(n j:Nat) (b:Bool),eqAr (f e) (P.cellsOf e) s q n j=some b->∀w,(sw d e (P.cellsOf e) X Y (List.range' j n)).run P w=.ok b w
 | 0,j,b,h,w=>by simp only [eqAr,ak] at h;subst h;simp [sw]
 | n+1,j,b,h,w=>by
  simp only [eqAr] at h;split at h
  ·rename_i b1 t;split at h
   ·rename_i b2 u;simp only [ak] at h;subst h;obtain ⟨⟨v,i⟩,a,c⟩:=r _ _ _ _ _ _ t (hx.extract (j*P.cellsOf e) (P.cellsOf e)) (hy.extract (j*P.cellsOf e) (P.cellsOf e));have k:=hx.length;have m:=hy.length;simp only [KV] at k m;have l:bJ P e=false->j*P.cellsOf e<X.size/\0<P.cellsOf e:=by
     intro o;obtain ⟨g,_⟩:=a o;simp only [fZ,cY] at g;omega
    have p:bJ P e=false->j*P.cellsOf e<Y.size/\0<P.cellsOf e:=by
     intro o;obtain ⟨_,g⟩:=a o;simp only [fZ,cY] at g;omega
    simp only [Ey,sw,aw,vd i l,vd i p,ay,c];cases b1
    ·simp
    ·simpa using It r hx hy n (j+1) b2 u w
   ·cases h
  ·cases h
theorem vh (l:aa):(ByteArray.mk l.toArray).toList=l:=by
 rw [ByteArray.toList_eq]
theorem Fp {ι:Inj}:∀(n d:Nat),EqOK P ι (eqC P n) (n+d)
 | 0,d=>λt x u b X Y h=>by simp [eqC] at h
 | n+1,d=>by
  intro t x u b X Y h hx hy;have ih:=Fp (ι:=ι) n d;rw [show n+1+d=(n+d)+1 by omega];unfold eqC at h;split at h
  ·rename_i k c;split at h
   ·rename_i k1 a k2 g;split at h
    ·rename_i r;simp only [ak] at h;subst h;have r:=jy r;subst r;simp only [VRs,VR] at hx hy;obtain ⟨_,_,o,rfl,rfl⟩:=hx;obtain ⟨_,_,m,rfl,rfl⟩:=hy;refine ⟨⟨_,c⟩,λ_=>by simp,λw=>?_⟩;have f:mg P t X=.int k1 a:=by simp [mg,bJ,c,qN,<-pU,o]
     have j:mg P t Y=.int k1 g:=by simp [mg,bJ,c,qN,<-pU,m]
     rw [f,j];exact run_equalIn_int w _ t k1 k a g c
    ·cases h
   ·cases h
  ·rename_i c;split at h
   ·rename_i a g;simp only [ak] at h;subst h;simp only [VRs,VR] at hx hy;obtain ⟨_,_,o,rfl,rfl⟩:=hx;obtain ⟨_,_,m,rfl,rfl⟩:=hy;refine ⟨⟨_,c⟩,λ_=>by simp,λw=>?_⟩;have f:mg P t X=.bool a:=by simp [mg,bJ,c,qN,<-pU,o]
    have j:mg P t Y=.bool g:=by simp [mg,bJ,c,qN,<-pU,m]
    rw [f,j];exact run_equalIn_bool' w _ t a g c
   ·cases h
  ·rename_i c;split at h
   ·rename_i a g;simp only [ak] at h;subst h;simp only [VRs,VR] at hx hy;obtain ⟨_,_,o,rfl,rfl⟩:=hx;obtain ⟨_,_,m,rfl,rfl⟩:=hy;refine ⟨⟨_,c⟩,λ_=>by simp,λw=>?_⟩;have f:mg P t X=.string ⟨a.toArray⟩:=by simp [mg,bJ,c,qN,<-pU,o]
    have j:mg P t Y=.string ⟨g.toArray⟩:=by simp [mg,bJ,c,qN,<-pU,m]
    rw [f,j,run_equalIn_string w _ t _ _ c,vh,vh]
   ·cases h
  ·rename_i v c;split at h
   ·cases h
   ·rename_i q;have s:P.fieldsOf t=v:=by simp [Program.fieldsOf,c]
    have f:∀X,mg P t X=.agg X:=λX=>by simp [mg,bJ,c]
    refine ⟨⟨_,c⟩,λp=>by simp [bJ,c] at p,λw=>?_⟩;rw [f,f,run_equalIn_struct w _ t X Y (by rw [s];exact c) q,s];exact II ih hx hy _ _ h w
  ·rename_i len e c;split at h
   case h_2=>cases h
   rename_i l;have f:∀X,mg P t X=.agg X:=λX=>by simp [mg,bJ,c]
   refine ⟨⟨_,c⟩,λp=>by simp [bJ,c] at p,λw=>?_⟩;rw [f,f];obtain ⟨i,hi⟩:=bK l;rw [uj _ X Y c hi];exact It ih hx hy _ _ _ h w
  ·cases h
end Go.Abs
