
/- Comparisons of values: what the abstract one says of the model's own.
   Conditions: none; generic over the program. -/
import Derived.Test.YtadejcglcffgbacGreatDoorAbsD
set_option linter.unusedSimpArgs false
set_option linter.unusedVariables false
set_option linter.defProp false
namespace Go.Abs
variable {P:Program}
def jF(P:Program)(t:TypeId)(X:Array Value):Value:=if bi P t then .agg X else X.getD 0 undef
def rn{t:TypeId}{d:TypeDesc}(b:P.underlying t=some d){X:Array Value}{off:Nat}(h:bi P t=false->off<X.size/\0<P.cellsOf t)(w:World):
  (part t X off).run P w=.ok (jF P t (X.extract off (off+P.cellsOf t))) w:=by
 obtain⟨i,hi⟩:=jL b;unfold jF;cases a:bi P t with
 | true=>simp[part,hP b,a,dN hi]
 | false=>
  obtain⟨h1,h2⟩:=h a;simp only[part,al,hP b,a,ar,cb,aD];have:X[off]?=some X[off]:=by simp[h1]
  rw[this];have e:(X.extract off (off+P.cellsOf t))[0]?=some X[off]:=by
   rw[Array.getElem?_extract,ad (by omega)];simp[h1]
  simp[mV,e]
def VRs.extract{ι:Inj}{l:List V}{X:Array Value}(h:VRs ι l X.toList)(o n:Nat):VRs ι ((l.drop o).take n) (X.extract o (o+n)).toList:=by
 have:=(h.drop o).take n;have e:(X.extract o (o+n)).toList=(X.toList.drop o).take n:=by
  simp[Array.toList_extract,List.extract]
 rw[e];exact this
def EqOK(P:Program)(ι:Inj)(c:TypeId->List V->List V->Option Bool)(d:Nat):Prop:=
 ∀t e a b (X Y:Array Value),c t e a=some b->VRs ι e X.toList->VRs ι a Y.toList->
  (∃f,P.underlying t=some f)/\(bi P t=false->0<e.length/\0<a.length)/\∀w,(Op.equalIn d t (jF P t X) (jF P t Y)).run P w=.ok b w
def EQ {ι:Inj} {rec:TypeId->List V->List V->Option Bool} {d:Nat} (hr:EqOK P ι rec d) {xs ys:List V} {X Y:Array Value} (hx:VRs ι xs X.toList) (hy:VRs ι ys Y.toList):
  ∀(fs:List Field) (b:Bool),eqFs rec P.cellsOf xs ys fs=some b->∀w,(Op.eqFields d X Y fs).run P w=.ok b w
 | [],b,h,w=>by simp only [eqFs,af] at h;subst h;simp [Op.eqFields]
 | f::fs,b,h,w=>by
  simp only [eqFs] at h;split at h
  ·cases h
  ·rename_i hn;split at h
   ·rename_i b1 h1;split at h
    ·rename_i b2 h2;simp only [af] at h;subst h;have hn':f.name≠ "_":=by simpa using hn
     obtain ⟨⟨td,htd⟩,hpos,hrun⟩:=hr _ _ _ _ _ _ h1 (hx.extract f.offset (P.cellsOf f.type)) (hy.extract f.offset (P.cellsOf f.type));have hxl:=hx.length;have hyl:=hy.length;simp only [Fg] at hxl hyl;have hp1:bi P f.type=false->f.offset<X.size/\0<P.cellsOf f.type:=by
      intro ha;obtain ⟨g,_⟩:=hpos ha;simp only [dj,k7] at g;omega
     have hp2:bi P f.type=false->f.offset<Y.size/\0<P.cellsOf f.type:=by
      intro ha;obtain ⟨_,g⟩:=hpos ha;simp only [dj,k7] at g;omega
     simp only [Op.eqFields,hn',ne_eq,zk,be,al,rn htd hp1,rn htd hp2,ar,hrun];cases b1
     ·simp
     ·simpa using EQ hr hx hy fs b2 h2 w
    ·cases h
   ·cases h
def oC(d:Nat)(e:TypeId)(n:Nat)(X Y:Array Value):List Nat->Sem Bool
 | []=>pure true
 | i::l=>do
  let a <-part e X (i*n);let b <-part e Y (i*n);let r <-Op.equalIn d e a b
  if(!r)=true then pure false else oC d e n X Y l
def qk(d:Nat){t e:TypeId}{len:Nat}{i:TypeInfo}(X Y:Array Value)(h:P.underlying t=some (.array len e))(hi:P.info? e=some i)(w:World):
  (Op.equalIn (d+1) t (.agg X) (.agg Y)).run P w=(oC d e (P.cellsOf e) X Y (List.range' 0 len)).run P w:=by
 simp only[Op.equalIn,al,aJ h,ar,dN hi];rw[Std.Legacy.Range.forIn_eq_forIn_range'];simp only[Std.Legacy.Range.size,s9,yG,wJ];generalize List.range' 0 len=l
 induction l generalizing w with
 | nil=>simp[oC]
 | cons j l ih=>
  simp only[List.forIn_cons,oC,al,Sem.run_ite];generalize(part e X (j*P.cellsOf e)).run P w=k;cases k with
  | ok a g=>
   simp only[ar];generalize(part e Y (j*P.cellsOf e)).run P g=m;cases m with
   | ok b c=>
    simp only[ar];generalize(Op.equalIn d e a b).run P c=n;cases n with
    | ok r f=>
     cases r
     ·simp only[ar,dU,be,av]
     ·simp only[ar,da,cb,aD,av];exact ih f
    | halt x f=>simp[Result.andThen]
   | halt x c=>simp[Result.andThen]
  | halt x g=>simp[Result.andThen]
def Fz{ι:Inj}{f:TypeId->List V->List V->Option Bool}{d:Nat}(s:EqOK P ι f d){e:TypeId}{u t:List V}{X Y:Array Value}(r:VRs ι u X.toList)(l:VRs ι t Y.toList):
  ∀(n j:Nat) (b:Bool),eqAr (f e) (P.cellsOf e) u t n j=some b->∀w,(oC d e (P.cellsOf e) X Y (List.range' j n)).run P w=.ok b w
 | 0,j,b,h,w=>by simp only[eqAr,af]at h;subst h;simp[oC]
 | n+1,j,b,h,w=>by
  simp only[eqAr]at h;split at h
  ·rename_i x h1;split at h
   ·rename_i v h2;simp only[af]at h;subst h;obtain⟨⟨y,c⟩,a,i⟩:=s _ _ _ _ _ _ h1 (r.extract (j*P.cellsOf e) (P.cellsOf e)) (l.extract (j*P.cellsOf e) (P.cellsOf e));have k:=r.length;have q:=l.length;simp only[Fg]at k q;have o:bi P e=false->j*P.cellsOf e<X.size/\0<P.cellsOf e:=by
     intro p;obtain⟨g,_⟩:=a p;simp only[dj,k7]at g;omega
    have m:bi P e=false->j*P.cellsOf e<Y.size/\0<P.cellsOf e:=by
     intro p;obtain⟨_,g⟩:=a p;simp only[dj,k7]at g;omega
    simp only[we,oC,al,rn c o,rn c m,ar,i];cases x
    ·simp
    ·simpa using Fz s r l n (j+1) v h2 w
   ·cases h
  ·cases h
def sD(l:aa):(ByteArray.mk l.toArray).toList=l:=by
 rw[ByteArray.toList_eq]
def Az{ι:Inj}:∀(n d:Nat),EqOK P ι (eqC P n) (n+d)
 | 0,d=>λt z y b X Y h=>by simp[eqC]at h
 | n+1,d=>by
  intro t z y b X Y h j g;have ih:=Az (ι:=ι) n d;rw[show n+1+d=(n+d)+1 by omega];unfold eqC at h;split at h
  ·rename_i k c;split at h
   ·rename_i k1 a k2 l;split at h
    ·rename_i r;simp only[af]at h;subst h;have r:=io r;subst r;simp only[VRs,VR]at j g;obtain⟨_,_,q,rfl,rfl⟩:=j;obtain⟨_,_,o,rfl,rfl⟩:=g;refine⟨⟨_,c⟩,λ_=>by simp,λw=>?_⟩;have f:jF P t X=.int k1 a:=by simp[jF,bi,c,mV,<-mh,q]
     have m:jF P t Y=.int k1 l:=by simp[jF,bi,c,mV,<-mh,o]
     rw[f,m];exact run_equalIn_int w _ t k1 k a l c
    ·cases h
   ·cases h
  ·rename_i c;split at h
   ·rename_i a l;simp only[af]at h;subst h;simp only[VRs,VR]at j g;obtain⟨_,_,q,rfl,rfl⟩:=j;obtain⟨_,_,o,rfl,rfl⟩:=g;refine⟨⟨_,c⟩,λ_=>by simp,λw=>?_⟩;have f:jF P t X=.bool a:=by simp[jF,bi,c,mV,<-mh,q]
    have m:jF P t Y=.bool l:=by simp[jF,bi,c,mV,<-mh,o]
    rw[f,m];exact run_equalIn_bool' w _ t a l c
   ·cases h
  ·rename_i c;split at h
   ·rename_i a l;simp only[af]at h;subst h;simp only[VRs,VR]at j g;obtain⟨_,_,q,rfl,rfl⟩:=j;obtain⟨_,_,o,rfl,rfl⟩:=g;refine⟨⟨_,c⟩,λ_=>by simp,λw=>?_⟩;have f:jF P t X=.string ⟨a.toArray⟩:=by simp[jF,bi,c,mV,<-mh,q]
    have m:jF P t Y=.string ⟨l.toArray⟩:=by simp[jF,bi,c,mV,<-mh,o]
    rw[f,m,run_equalIn_string w _ t _ _ c,sD,sD]
   ·cases h
  ·rename_i x c;split at h
   ·cases h
   ·rename_i u;have v:P.fieldsOf t=x:=by simp[Program.fieldsOf,c]
    have f:∀X,jF P t X=.agg X:=λX=>by simp[jF,bi,c]
    refine⟨⟨_,c⟩,λs=>by simp[bi,c]at s,λw=>?_⟩;rw[f,f,run_equalIn_struct w _ t X Y (by rw[v];exact c) u,v];exact EQ ih j g _ _ h w
  ·rename_i len e c;split at h
   case h_2=>cases h
   rename_i p;have f:∀X,jF P t X=.agg X:=λX=>by simp[jF,bi,c]
   refine⟨⟨_,c⟩,λs=>by simp[bi,c]at s,λw=>?_⟩;rw[f,f];obtain⟨i,hi⟩:=bn p;rw[qk _ X Y c hi];exact Fz ih j g _ _ _ h w
  ·cases h
end Go.Abs
