
/- Comparisons of values: what the abstract one says of the model's own.
   Conditions: none; generic over the program. -/
import Derived.Test.YtadejcglcffgbaaGreatDoorAbsD
set_option linter.unusedSimpArgs false
set_option linter.unusedVariables false
set_option linter.defProp false
namespace Go.Abs
variable {P:Program}
def nq(P:Program)(t:TypeId)(X:Array Value):Value:=if bY P t then .agg X else X.getD 0 undef
def wx{t:TypeId}{d:TypeDesc}(b:P.underlying t=some d){X:Array Value}{off:Nat}(h:bY P t=false->off<X.size/\0<P.cellsOf t)(w:World):
  (part t X off).run P w=.ok (nq P t (X.extract off (off+P.cellsOf t))) w:=by
 obtain⟨i,hi⟩:=nr b;unfold nq;cases a:bY P t with
 | true=>simp[part,kC b,a,gk hi]
 | false=>
  obtain⟨c,f⟩:=h a;simp only[part,az,kC b,a,aA,bQ,aF];have:X[off]?=some X[off]:=by simp[c]
  rw[this];have e:(X.extract off (off+P.cellsOf t))[0]?=some X[off]:=by
   rw[Array.getElem?_extract,ae (by omega)];simp[c]
  simp[rK,e]
def VRs.extract{ι:Inj}{l:List V}{X:Array Value}(h:VRs ι l X.toList)(o n:Nat):VRs ι ((l.drop o).take n) (X.extract o (o+n)).toList:=by
 have:=(h.drop o).take n;have e:(X.extract o (o+n)).toList=(X.toList.drop o).take n:=by
  simp[Array.toList_extract,List.extract]
 rw[e];exact this
def EqOK(P:Program)(ι:Inj)(c:TypeId->List V->List V->Option Bool)(d:Nat):Prop:=
 ∀t e a b (X Y:Array Value),c t e a=some b->VRs ι e X.toList->VRs ι a Y.toList->
  (∃f,P.underlying t=some f)/\(bY P t=false->0<e.length/\0<a.length)/\∀w,(Op.equalIn d t (nq P t X) (nq P t Y)).run P w=.ok b w
def LY {ι:Inj} {rec:TypeId->List V->List V->Option Bool} {d:Nat} (hr:EqOK P ι rec d) {xs ys:List V} {X Y:Array Value} (hx:VRs ι xs X.toList) (hy:VRs ι ys Y.toList):
  ∀(fs:List Field) (b:Bool),eqFs rec P.cellsOf xs ys fs=some b->∀w,(Op.eqFields d X Y fs).run P w=.ok b w
 | [],b,h,w=>by simp only [eqFs,aq] at h;subst h;simp [Op.eqFields]
 | f::fs,b,h,w=>by
  simp only [eqFs] at h;split at h
  ·cases h
  ·rename_i hn;split at h
   ·rename_i b1 h1;split at h
    ·rename_i b2 h2;simp only [aq] at h;subst h;have hn':f.name≠ "_":=by simpa using hn
     obtain ⟨⟨td,htd⟩,hpos,hrun⟩:=hr _ _ _ _ _ _ h1 (hx.extract f.offset (P.cellsOf f.type)) (hy.extract f.offset (P.cellsOf f.type));have hxl:=hx.length;have hyl:=hy.length;simp only [Nj] at hxl hyl;have hp1:bY P f.type=false->f.offset<X.size/\0<P.cellsOf f.type:=by
      intro ha;obtain ⟨g,_⟩:=hpos ha;simp only [dA,ci] at g;omega
     have hp2:bY P f.type=false->f.offset<Y.size/\0<P.cellsOf f.type:=by
      intro ha;obtain ⟨_,g⟩:=hpos ha;simp only [dA,ci] at g;omega
     simp only [Op.eqFields,hn',ne_eq,FR,aN,az,wx htd hp1,wx htd hp2,aA,hrun];cases b1
     ·simp
     ·simpa using LY hr hx hy fs b2 h2 w
    ·cases h
   ·cases h
def tP(d:Nat)(e:TypeId)(n:Nat)(X Y:Array Value):List Nat->Sem Bool
 | []=>pure true
 | i::l=>do
  let a <-part e X (i*n);let b <-part e Y (i*n);let r <-Op.equalIn d e a b
  if(!r)=true then pure false else tP d e n X Y l
def vj(d:Nat){t e:TypeId}{len:Nat}{i:TypeInfo}(X Y:Array Value)(m:P.underlying t=some (.array len e))(hi:P.info? e=some i)(w:World):
  (Op.equalIn (d+1) t (.agg X) (.agg Y)).run P w=(tP d e (P.cellsOf e) X Y (List.range' 0 len)).run P w:=by
 simp only[Op.equalIn,az,be m,aA,gk hi];rw[Std.Legacy.Range.forIn_eq_forIn_range'];simp only[Std.Legacy.Range.size,tu,FN,tM];generalize List.range' 0 len=l
 induction l generalizing w with
 | nil=>simp[tP]
 | cons j l ih=>
  simp only[List.forIn_cons,tP,az,Sem.run_ite];generalize(part e X (j*P.cellsOf e)).run P w=n;cases n with
  | ok a g=>
   simp only[aA];generalize(part e Y (j*P.cellsOf e)).run P g=k;cases k with
   | ok b c=>
    simp only[aA];generalize(Op.equalIn d e a b).run P c=h;cases h with
    | ok r f=>
     cases r
     ·simp only[aA,kL,aN,aD]
     ·simp only[aA,dL,bQ,aF,aD];exact ih f
    | halt x f=>simp[Result.andThen]
   | halt x c=>simp[Result.andThen]
  | halt x g=>simp[Result.andThen]
def Nb{ι:Inj}{f:TypeId->List V->List V->Option Bool}{d:Nat}(s:EqOK P ι f d){e:TypeId}{r q:List V}{X Y:Array Value}(hx:VRs ι r X.toList)(hy:VRs ι q Y.toList):
  ∀(n j:Nat) (b:Bool),eqAr (f e) (P.cellsOf e) r q n j=some b->∀w,(tP d e (P.cellsOf e) X Y (List.range' j n)).run P w=.ok b w
 | 0,j,b,h,w=>by simp only[eqAr,aq]at h;subst h;simp[tP]
 | n+1,j,b,h,w=>by
  simp only[eqAr]at h;split at h
  ·rename_i b1 u;split at h
   ·rename_i b2 t;simp only[aq]at h;subst h;obtain⟨⟨v,i⟩,a,c⟩:=s _ _ _ _ _ _ u (hx.extract (j*P.cellsOf e) (P.cellsOf e)) (hy.extract (j*P.cellsOf e) (P.cellsOf e));have m:=hx.length;have p:=hy.length;simp only[Nj]at m p;have l:bY P e=false->j*P.cellsOf e<X.size/\0<P.cellsOf e:=by
     intro k;obtain⟨g,_⟩:=a k;simp only[dA,ci]at g;omega
    have o:bY P e=false->j*P.cellsOf e<Y.size/\0<P.cellsOf e:=by
     intro k;obtain⟨_,g⟩:=a k;simp only[dA,ci]at g;omega
    simp only[xa,tP,az,wx i l,wx i o,aA,c];cases b1
    ·simp
    ·simpa using Nb s hx hy n (j+1) b2 t w
   ·cases h
  ·cases h
def xQ(l:aa):(ByteArray.mk l.toArray).toList=l:=by
 rw[ByteArray.toList_eq]
def H5{ι:Inj}:∀(n d:Nat),EqOK P ι (eqC P n) (n+d)
 | 0,d=>λt x v b X Y h=>by simp[eqC]at h
 | n+1,d=>by
  intro t x v b X Y h hx hy;have ih:=H5 (ι:=ι) n d;rw[show n+1+d=(n+d)+1 by omega];unfold eqC at h;split at h
  ·rename_i k c;split at h
   ·rename_i k1 a k2 g;split at h
    ·rename_i q;simp only[aq]at h;subst h;have q:=la q;subst q;simp only[VRs,VR]at hx hy;obtain⟨_,_,l,rfl,rfl⟩:=hx;obtain⟨_,_,m,rfl,rfl⟩:=hy;refine⟨⟨_,c⟩,λ_=>by simp,λw=>?_⟩;have f:nq P t X=.int k1 a:=by simp[nq,bY,c,rK,<-qu,l]
     have j:nq P t Y=.int k1 g:=by simp[nq,bY,c,rK,<-qu,m]
     rw[f,j];exact run_equalIn_int w _ t k1 k a g c
    ·cases h
   ·cases h
  ·rename_i c;split at h
   ·rename_i a g;simp only[aq]at h;subst h;simp only[VRs,VR]at hx hy;obtain⟨_,_,l,rfl,rfl⟩:=hx;obtain⟨_,_,m,rfl,rfl⟩:=hy;refine⟨⟨_,c⟩,λ_=>by simp,λw=>?_⟩;have f:nq P t X=.bool a:=by simp[nq,bY,c,rK,<-qu,l]
    have j:nq P t Y=.bool g:=by simp[nq,bY,c,rK,<-qu,m]
    rw[f,j];exact run_equalIn_bool' w _ t a g c
   ·cases h
  ·rename_i c;split at h
   ·rename_i a g;simp only[aq]at h;subst h;simp only[VRs,VR]at hx hy;obtain⟨_,_,l,rfl,rfl⟩:=hx;obtain⟨_,_,m,rfl,rfl⟩:=hy;refine⟨⟨_,c⟩,λ_=>by simp,λw=>?_⟩;have f:nq P t X=.string ⟨a.toArray⟩:=by simp[nq,bY,c,rK,<-qu,l]
    have j:nq P t Y=.string ⟨g.toArray⟩:=by simp[nq,bY,c,rK,<-qu,m]
    rw[f,j,run_equalIn_string w _ t _ _ c,xQ,xQ]
   ·cases h
  ·rename_i u c;split at h
   ·cases h
   ·rename_i r;have s:P.fieldsOf t=u:=by simp[Program.fieldsOf,c]
    have f:∀X,nq P t X=.agg X:=λX=>by simp[nq,bY,c]
    refine⟨⟨_,c⟩,λp=>by simp[bY,c]at p,λw=>?_⟩;rw[f,f,run_equalIn_struct w _ t X Y (by rw[s];exact c) r,s];exact LY ih hx hy _ _ h w
  ·rename_i len e c;split at h
   case h_2=>cases h
   rename_i o;have f:∀X,nq P t X=.agg X:=λX=>by simp[nq,bY,c]
   refine⟨⟨_,c⟩,λp=>by simp[bY,c]at p,λw=>?_⟩;rw[f,f];obtain⟨i,hi⟩:=cg o;rw[vj _ X Y c hi];exact Nb ih hx hy _ _ _ h w
  ·cases h
end Go.Abs
