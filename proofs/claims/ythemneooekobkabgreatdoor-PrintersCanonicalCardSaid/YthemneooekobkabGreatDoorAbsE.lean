
/- Comparisons of values: what the abstract one says of the model's own.
   Conditions: none; generic over the program. -/
import Derived.Test.YthemneooekobkabGreatDoorAbsD
set_option linter.unusedSimpArgs false
set_option linter.unusedVariables false
namespace Go.Abs
variable {P:Program}
def nD (P:Program) (t:TypeId) (X:Array Value):Value:=if bV P t then .agg X else X.getD 0 undef
theorem wq {t:TypeId} {d:TypeDesc} (b:P.underlying t=some d) {X:Array Value} {off:Nat} (h:bV P t=false->off<X.size/\0<P.cellsOf t) (w:World):
  (part t X off).run P w=.ok (nD P t (X.extract off (off+P.cellsOf t))) w:=by
 obtain ⟨i,hi⟩:=nv b;unfold nD;cases a:bV P t with
 | true=>simp [part,kP b,a,gq hi]
 | false=>
  obtain ⟨c,f⟩:=h a;simp only [part,aw,kP b,a,ay,br,aB];have:X[off]?=some X[off]:=by simp [c]
  rw [this];have e:(X.extract off (off+P.cellsOf t))[0]?=some X[off]:=by
   rw [Array.getElem?_extract,ae (by omega)];simp [c]
  simp [ri,e]
theorem VRs.extract {ι:Inj} {l:List V} {X:Array Value} (h:VRs ι l X.toList) (o n:Nat):VRs ι ((l.drop o).take n) (X.extract o (o+n)).toList:=by
 have:=(h.drop o).take n;have e:(X.extract o (o+n)).toList=(X.toList.drop o).take n:=by
  simp [Array.toList_extract,List.extract]
 rw [e];exact this
def EqOK (P:Program) (ι:Inj) (e:TypeId->List V->List V->Option Bool) (d:Nat):Prop:=
 ∀t c a b (X Y:Array Value),e t c a=some b->VRs ι c X.toList->VRs ι a Y.toList->
  (∃f,P.underlying t=some f)/\(bV P t=false->0<c.length/\0<a.length)/\∀w,(Op.equalIn d t (nD P t X) (nD P t Y)).run P w=.ok b w
theorem M9 {ι:Inj} {rec:TypeId->List V->List V->Option Bool} {d:Nat} (hr:EqOK P ι rec d) {xs ys:List V} {X Y:Array Value} (hx:VRs ι xs X.toList) (hy:VRs ι ys Y.toList):
  ∀(fs:List Field) (b:Bool),eqFs rec P.cellsOf xs ys fs=some b->∀w,(Op.eqFields d X Y fs).run P w=.ok b w
 | [],b,h,w=>by simp only [eqFs,au] at h;subst h;simp [Op.eqFields]
 | f::fs,b,h,w=>by
  simp only [eqFs] at h;split at h
  ·cases h
  ·rename_i hn;split at h
   ·rename_i b1 h1;split at h
    ·rename_i b2 h2;simp only [au] at h;subst h;have hn':f.name≠ "_":=by simpa using hn
     obtain ⟨⟨td,htd⟩,hpos,hrun⟩:=hr _ _ _ _ _ _ h1 (hx.extract f.offset (P.cellsOf f.type)) (hy.extract f.offset (P.cellsOf f.type));have hxl:=hx.length;have hyl:=hy.length;simp only [MS] at hxl hyl;have hp1:bV P f.type=false->f.offset<X.size/\0<P.cellsOf f.type:=by
      intro ha;obtain ⟨g,_⟩:=hpos ha;simp only [db,bL] at g;omega
     have hp2:bV P f.type=false->f.offset<Y.size/\0<P.cellsOf f.type:=by
      intro ha;obtain ⟨_,g⟩:=hpos ha;simp only [db,bL] at g;omega
     simp only [Op.eqFields,hn',ne_eq,Fp,aJ,aw,wq htd hp1,wq htd hp2,ay,hrun];cases b1
     ·simp
     ·simpa using M9 hr hx hy fs b2 h2 w
    ·cases h
   ·cases h
def tu (d:Nat) (e:TypeId) (n:Nat) (X Y:Array Value):List Nat->Sem Bool
 | []=>pure true
 | i::l=>do
  let a <-part e X (i*n);let b <-part e Y (i*n);let r <-Op.equalIn d e a b
  if (!r)=true then pure false else tu d e n X Y l
theorem uN (d:Nat) {t e:TypeId} {len:Nat} {i:TypeInfo} (X Y:Array Value) (h:P.underlying t=some (.array len e)) (hi:P.info? e=some i) (w:World):
  (Op.equalIn (d+1) t (.agg X) (.agg Y)).run P w=(tu d e (P.cellsOf e) X Y (List.range' 0 len)).run P w:=by
 simp only [Op.equalIn,aw,aV h,ay,gq hi];rw [Std.Legacy.Range.forIn_eq_forIn_range'];simp only [Std.Legacy.Range.size,qm,EH,tc];generalize List.range' 0 len=l
 induction l generalizing w with
 | nil=>simp [tu]
 | cons j l ih=>
  simp only [List.forIn_cons,tu,aw,Sem.run_ite];generalize (part e X (j*P.cellsOf e)).run P w=k;cases k with
  | ok a g=>
   simp only [ay];generalize (part e Y (j*P.cellsOf e)).run P g=n;cases n with
   | ok b c=>
    simp only [ay];generalize (Op.equalIn d e a b).run P c=m;cases m with
    | ok r f=>
     cases r
     ·simp only [ay,ij,aJ,aD]
     ·simp only [ay,cv,br,aB,aD];exact ih f
    | halt x f=>simp [Result.andThen]
   | halt x c=>simp [Result.andThen]
  | halt x g=>simp [Result.andThen]
theorem Nq {ι:Inj} {i:TypeId->List V->List V->Option Bool} {d:Nat} (s:EqOK P ι i d) {e:TypeId} {r q:List V} {X Y:Array Value} (hx:VRs ι r X.toList) (hy:VRs ι q Y.toList):
  ∀(n j:Nat) (b:Bool),eqAr (i e) (P.cellsOf e) r q n j=some b->∀w,(tu d e (P.cellsOf e) X Y (List.range' j n)).run P w=.ok b w
 | 0,j,b,h,w=>by simp only [eqAr,au] at h;subst h;simp [tu]
 | n+1,j,b,h,w=>by
  simp only [eqAr] at h;split at h
  ·rename_i b1 u;split at h
   ·rename_i b2 t;simp only [au] at h;subst h;obtain ⟨⟨v,c⟩,a,f⟩:=s _ _ _ _ _ _ u (hx.extract (j*P.cellsOf e) (P.cellsOf e)) (hy.extract (j*P.cellsOf e) (P.cellsOf e));have l:=hx.length;have p:=hy.length;simp only [MS] at l p;have k:bV P e=false->j*P.cellsOf e<X.size/\0<P.cellsOf e:=by
     intro o;obtain ⟨g,_⟩:=a o;simp only [db,bL] at g;omega
    have m:bV P e=false->j*P.cellsOf e<Y.size/\0<P.cellsOf e:=by
     intro o;obtain ⟨_,g⟩:=a o;simp only [db,bL] at g;omega
    simp only [xq,tu,aw,wq c k,wq c m,ay,f];cases b1
    ·simp
    ·simpa using Nq s hx hy n (j+1) b2 t w
   ·cases h
  ·cases h
theorem xZ (l:aa):(ByteArray.mk l.toArray).toList=l:=by
 rw [ByteArray.toList_eq]
theorem Io {ι:Inj}:∀(n d:Nat),EqOK P ι (eqC P n) (n+d)
 | 0,d=>λt x u b X Y h=>by simp [eqC] at h
 | n+1,d=>by
  intro t x u b X Y h hx hy;have ih:=Io (ι:=ι) n d;rw [show n+1+d=(n+d)+1 by omega];unfold eqC at h;split at h
  ·rename_i k c;split at h
   ·rename_i k1 a k2 g;split at h
    ·rename_i p;simp only [au] at h;subst h;have p:=lu p;subst p;simp only [VRs,VR] at hx hy;obtain ⟨_,_,m,rfl,rfl⟩:=hx;obtain ⟨_,_,l,rfl,rfl⟩:=hy;refine ⟨⟨_,c⟩,λ_=>by simp,λw=>?_⟩;have f:nD P t X=.int k1 a:=by simp [nD,bV,c,ri,<-qG,m]
     have j:nD P t Y=.int k1 g:=by simp [nD,bV,c,ri,<-qG,l]
     rw [f,j];exact run_equalIn_int w _ t k1 k a g c
    ·cases h
   ·cases h
  ·rename_i c;split at h
   ·rename_i a g;simp only [au] at h;subst h;simp only [VRs,VR] at hx hy;obtain ⟨_,_,m,rfl,rfl⟩:=hx;obtain ⟨_,_,l,rfl,rfl⟩:=hy;refine ⟨⟨_,c⟩,λ_=>by simp,λw=>?_⟩;have f:nD P t X=.bool a:=by simp [nD,bV,c,ri,<-qG,m]
    have j:nD P t Y=.bool g:=by simp [nD,bV,c,ri,<-qG,l]
    rw [f,j];exact run_equalIn_bool' w _ t a g c
   ·cases h
  ·rename_i c;split at h
   ·rename_i a g;simp only [au] at h;subst h;simp only [VRs,VR] at hx hy;obtain ⟨_,_,m,rfl,rfl⟩:=hx;obtain ⟨_,_,l,rfl,rfl⟩:=hy;refine ⟨⟨_,c⟩,λ_=>by simp,λw=>?_⟩;have f:nD P t X=.string ⟨a.toArray⟩:=by simp [nD,bV,c,ri,<-qG,m]
    have j:nD P t Y=.string ⟨g.toArray⟩:=by simp [nD,bV,c,ri,<-qG,l]
    rw [f,j,run_equalIn_string w _ t _ _ c,xZ,xZ]
   ·cases h
  ·rename_i v c;split at h
   ·cases h
   ·rename_i q;have s:P.fieldsOf t=v:=by simp [Program.fieldsOf,c]
    have f:∀X,nD P t X=.agg X:=λX=>by simp [nD,bV,c]
    refine ⟨⟨_,c⟩,λr=>by simp [bV,c] at r,λw=>?_⟩;rw [f,f,run_equalIn_struct w _ t X Y (by rw [s];exact c) q,s];exact M9 ih hx hy _ _ h w
  ·rename_i len e c;split at h
   case h_2=>cases h
   rename_i o;have f:∀X,nD P t X=.agg X:=λX=>by simp [nD,bV,c]
   refine ⟨⟨_,c⟩,λr=>by simp [bV,c] at r,λw=>?_⟩;rw [f,f];obtain ⟨i,hi⟩:=ca o;rw [uN _ X Y c hi];exact Nq ih hx hy _ _ _ h w
  ·cases h
end Go.Abs
