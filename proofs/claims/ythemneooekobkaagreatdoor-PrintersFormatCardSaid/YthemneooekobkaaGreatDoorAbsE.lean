
/- Comparisons of values: what the abstract one says of the model's own.
   Conditions: none; generic over the program. -/
import Derived.Test.YthemneooekobkaaGreatDoorAbsD
set_option linter.unusedSimpArgs false
set_option linter.unusedVariables false
namespace Go.Abs
variable {P:Program}
def nI (P:Program) (t:TypeId) (X:Array Value):Value:=if bZ P t then .agg X else X.getD 0 undef
theorem wA {t:TypeId} {d:TypeDesc} (b:P.underlying t=some d) {X:Array Value} {off:Nat} (h:bZ P t=false->off<X.size/\0<P.cellsOf t) (w:World):
  (part t X off).run P w=.ok (nI P t (X.extract off (off+P.cellsOf t))) w:=by
 obtain ⟨i,hi⟩:=nM b;unfold nI;cases a:bZ P t with
 | true=>simp [part,kU b,a,gn hi]
 | false=>
  obtain ⟨c,f⟩:=h a;simp only [part,ay,kU b,a,aA,bz,aE];have:X[off]?=some X[off]:=by simp [c]
  rw [this];have e:(X.extract off (off+P.cellsOf t))[0]?=some X[off]:=by
   rw [Array.getElem?_extract,ae (by omega)];simp [c]
  simp [rq,e]
theorem VRs.extract {ι:Inj} {l:List V} {X:Array Value} (h:VRs ι l X.toList) (o n:Nat):VRs ι ((l.drop o).take n) (X.extract o (o+n)).toList:=by
 have:=(h.drop o).take n;have e:(X.extract o (o+n)).toList=(X.toList.drop o).take n:=by
  simp [Array.toList_extract,List.extract]
 rw [e];exact this
def EqOK (P:Program) (ι:Inj) (c:TypeId->List V->List V->Option Bool) (d:Nat):Prop:=
 ∀t e a b (X Y:Array Value),c t e a=some b->VRs ι e X.toList->VRs ι a Y.toList->
  (∃f,P.underlying t=some f)/\(bZ P t=false->0<e.length/\0<a.length)/\∀w,(Op.equalIn d t (nI P t X) (nI P t Y)).run P w=.ok b w
theorem O1 {ι:Inj} {rec:TypeId->List V->List V->Option Bool} {d:Nat} (hr:EqOK P ι rec d) {xs ys:List V} {X Y:Array Value} (hx:VRs ι xs X.toList) (hy:VRs ι ys Y.toList):
  ∀(fs:List Field) (b:Bool),eqFs rec P.cellsOf xs ys fs=some b->∀w,(Op.eqFields d X Y fs).run P w=.ok b w
 | [],b,h,w=>by simp only [eqFs,av] at h;subst h;simp [Op.eqFields]
 | f::fs,b,h,w=>by
  simp only [eqFs] at h;split at h
  ·cases h
  ·rename_i hn;split at h
   ·rename_i b1 h1;split at h
    ·rename_i b2 h2;simp only [av] at h;subst h;have hn':f.name≠ "_":=by simpa using hn
     obtain ⟨⟨td,htd⟩,hpos,hrun⟩:=hr _ _ _ _ _ _ h1 (hx.extract f.offset (P.cellsOf f.type)) (hy.extract f.offset (P.cellsOf f.type));have hxl:=hx.length;have hyl:=hy.length;simp only [Nj] at hxl hyl;have hp1:bZ P f.type=false->f.offset<X.size/\0<P.cellsOf f.type:=by
      intro ha;obtain ⟨g,_⟩:=hpos ha;simp only [cV,bN] at g;omega
     have hp2:bZ P f.type=false->f.offset<Y.size/\0<P.cellsOf f.type:=by
      intro ha;obtain ⟨_,g⟩:=hpos ha;simp only [cV,bN] at g;omega
     simp only [Op.eqFields,hn',ne_eq,He,aM,ay,wA htd hp1,wA htd hp2,aA,hrun];cases b1
     ·simp
     ·simpa using O1 hr hx hy fs b2 h2 w
    ·cases h
   ·cases h
def tK (d:Nat) (e:TypeId) (n:Nat) (X Y:Array Value):List Nat->Sem Bool
 | []=>pure true
 | i::l=>do
  let a <-part e X (i*n);let b <-part e Y (i*n);let r <-Op.equalIn d e a b
  if (!r)=true then pure false else tK d e n X Y l
theorem vK (d:Nat) {t e:TypeId} {len:Nat} {i:TypeInfo} (X Y:Array Value) (k:P.underlying t=some (.array len e)) (hi:P.info? e=some i) (w:World):
  (Op.equalIn (d+1) t (.agg X) (.agg Y)).run P w=(tK d e (P.cellsOf e) X Y (List.range' 0 len)).run P w:=by
 simp only [Op.equalIn,ay,aY k,aA,gn hi];rw [Std.Legacy.Range.forIn_eq_forIn_range'];simp only [Std.Legacy.Range.size,ub,Gv,uc];generalize List.range' 0 len=l
 induction l generalizing w with
 | nil=>simp [tK]
 | cons j l ih=>
  simp only [List.forIn_cons,tK,ay,Sem.run_ite];generalize (part e X (j*P.cellsOf e)).run P w=h;cases h with
  | ok a g=>
   simp only [aA];generalize (part e Y (j*P.cellsOf e)).run P g=m;cases m with
   | ok b c=>
    simp only [aA];generalize (Op.equalIn d e a b).run P c=n;cases n with
    | ok r f=>
     cases r
     ·simp only [aA,jx,aM,aF]
     ·simp only [aA,du,bz,aE,aF];exact ih f
    | halt x f=>simp [Result.andThen]
   | halt x c=>simp [Result.andThen]
  | halt x g=>simp [Result.andThen]
theorem MF {ι:Inj} {f:TypeId->List V->List V->Option Bool} {d:Nat} (r:EqOK P ι f d) {e:TypeId} {s q:List V} {X Y:Array Value} (hx:VRs ι s X.toList) (hy:VRs ι q Y.toList):
  ∀(n j:Nat) (b:Bool),eqAr (f e) (P.cellsOf e) s q n j=some b->∀w,(tK d e (P.cellsOf e) X Y (List.range' j n)).run P w=.ok b w
 | 0,j,b,h,w=>by simp only [eqAr,av] at h;subst h;simp [tK]
 | n+1,j,b,h,w=>by
  simp only [eqAr] at h;split at h
  ·rename_i b1 t;split at h
   ·rename_i b2 u;simp only [av] at h;subst h;obtain ⟨⟨v,i⟩,a,c⟩:=r _ _ _ _ _ _ t (hx.extract (j*P.cellsOf e) (P.cellsOf e)) (hy.extract (j*P.cellsOf e) (P.cellsOf e));have k:=hx.length;have o:=hy.length;simp only [Nj] at k o;have m:bZ P e=false->j*P.cellsOf e<X.size/\0<P.cellsOf e:=by
     intro p;obtain ⟨g,_⟩:=a p;simp only [cV,bN] at g;omega
    have l:bZ P e=false->j*P.cellsOf e<Y.size/\0<P.cellsOf e:=by
     intro p;obtain ⟨_,g⟩:=a p;simp only [cV,bN] at g;omega
    simp only [yG,tK,ay,wA i m,wA i l,aA,c];cases b1
    ·simp
    ·simpa using MF r hx hy n (j+1) b2 u w
   ·cases h
  ·cases h
theorem yg (l:aa):(ByteArray.mk l.toArray).toList=l:=by
 rw [ByteArray.toList_eq]
theorem Ip {ι:Inj}:∀(n d:Nat),EqOK P ι (eqC P n) (n+d)
 | 0,d=>λt x u b X Y h=>by simp [eqC] at h
 | n+1,d=>by
  intro t x u b X Y h hx hy;have ih:=Ip (ι:=ι) n d;rw [show n+1+d=(n+d)+1 by omega];unfold eqC at h;split at h
  ·rename_i k c;split at h
   ·rename_i k1 a k2 g;split at h
    ·rename_i q;simp only [av] at h;subst h;have q:=lB q;subst q;simp only [VRs,VR] at hx hy;obtain ⟨_,_,l,rfl,rfl⟩:=hx;obtain ⟨_,_,j,rfl,rfl⟩:=hy;refine ⟨⟨_,c⟩,λ_=>by simp,λw=>?_⟩;have f:nI P t X=.int k1 a:=by simp [nI,bZ,c,rq,<-qJ,l]
     have o:nI P t Y=.int k1 g:=by simp [nI,bZ,c,rq,<-qJ,j]
     rw [f,o];exact run_equalIn_int w _ t k1 k a g c
    ·cases h
   ·cases h
  ·rename_i c;split at h
   ·rename_i a g;simp only [av] at h;subst h;simp only [VRs,VR] at hx hy;obtain ⟨_,_,l,rfl,rfl⟩:=hx;obtain ⟨_,_,j,rfl,rfl⟩:=hy;refine ⟨⟨_,c⟩,λ_=>by simp,λw=>?_⟩;have f:nI P t X=.bool a:=by simp [nI,bZ,c,rq,<-qJ,l]
    have o:nI P t Y=.bool g:=by simp [nI,bZ,c,rq,<-qJ,j]
    rw [f,o];exact run_equalIn_bool' w _ t a g c
   ·cases h
  ·rename_i c;split at h
   ·rename_i a g;simp only [av] at h;subst h;simp only [VRs,VR] at hx hy;obtain ⟨_,_,l,rfl,rfl⟩:=hx;obtain ⟨_,_,j,rfl,rfl⟩:=hy;refine ⟨⟨_,c⟩,λ_=>by simp,λw=>?_⟩;have f:nI P t X=.string ⟨a.toArray⟩:=by simp [nI,bZ,c,rq,<-qJ,l]
    have o:nI P t Y=.string ⟨g.toArray⟩:=by simp [nI,bZ,c,rq,<-qJ,j]
    rw [f,o,run_equalIn_string w _ t _ _ c,yg,yg]
   ·cases h
  ·rename_i v c;split at h
   ·cases h
   ·rename_i r;have s:P.fieldsOf t=v:=by simp [Program.fieldsOf,c]
    have f:∀X,nI P t X=.agg X:=λX=>by simp [nI,bZ,c]
    refine ⟨⟨_,c⟩,λp=>by simp [bZ,c] at p,λw=>?_⟩;rw [f,f,run_equalIn_struct w _ t X Y (by rw [s];exact c) r,s];exact O1 ih hx hy _ _ h w
  ·rename_i len e c;split at h
   case h_2=>cases h
   rename_i m;have f:∀X,nI P t X=.agg X:=λX=>by simp [nI,bZ,c]
   refine ⟨⟨_,c⟩,λp=>by simp [bZ,c] at p,λw=>?_⟩;rw [f,f];obtain ⟨i,hi⟩:=cf m;rw [vK _ X Y c hi];exact MF ih hx hy _ _ _ h w
  ·cases h
end Go.Abs
