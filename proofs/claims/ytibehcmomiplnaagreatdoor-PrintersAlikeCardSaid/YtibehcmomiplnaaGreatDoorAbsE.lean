
/- Comparisons of values: what the abstract one says of the model's own.
   Conditions: none; generic over the program. -/
import Derived.Test.YtibehcmomiplnaaGreatDoorAbsD
set_option linter.unusedSimpArgs false
set_option linter.unusedVariables false
set_option linter.defProp false
namespace Go.Abs
variable {P:Program}
def nR(P:Program)(t:TypeId)(X:Array Value):Value:=if bY P t then .agg X else X.getD 0 undef
def wW{t:TypeId}{d:TypeDesc}(a:P.underlying t=some d){X:Array Value}{off:Nat}(h:bY P t=false->off<X.size/\0<P.cellsOf t)(w:World):
  (part t X off).run P w=.ok (nR P t (X.extract off (off+P.cellsOf t))) w:=by
 obtain⟨i,hi⟩:=nK a;unfold nR;cases b:bY P t with
 | true=>simp[part,lh a,b,gy hi]
 | false=>
  obtain⟨c,f⟩:=h b;simp only[part,ay,lh a,b,aB,bU,aG];have:X[off]?=some X[off]:=by simp[c]
  rw[this];have e:(X.extract off (off+P.cellsOf t))[0]?=some X[off]:=by
   rw[Array.getElem?_extract,af (by omega)];simp[c]
  simp[rj,e]
def VRs.extract{ι:Inj}{l:List V}{X:Array Value}(h:VRs ι l X.toList)(o n:Nat):VRs ι ((l.drop o).take n) (X.extract o (o+n)).toList:=by
 have:=(h.drop o).take n;have e:(X.extract o (o+n)).toList=(X.toList.drop o).take n:=by
  simp[Array.toList_extract,List.extract]
 rw[e];exact this
def EqOK(P:Program)(ι:Inj)(e:TypeId->List V->List V->Option Bool)(d:Nat):Prop:=
 ∀t a c b (X Y:Array Value),e t a c=some b->VRs ι a X.toList->VRs ι c Y.toList->
  (∃f,P.underlying t=some f)/\(bY P t=false->0<a.length/\0<c.length)/\∀w,(Op.equalIn d t (nR P t X) (nR P t Y)).run P w=.ok b w
def Ld {ι:Inj} {rec:TypeId->List V->List V->Option Bool} {d:Nat} (hr:EqOK P ι rec d) {xs ys:List V} {X Y:Array Value} (hx:VRs ι xs X.toList) (hy:VRs ι ys Y.toList):
  ∀(fs:List Field) (b:Bool),eqFs rec P.cellsOf xs ys fs=some b->∀w,(Op.eqFields d X Y fs).run P w=.ok b w
 | [],b,h,w=>by simp only [eqFs,ar] at h;subst h;simp [Op.eqFields]
 | f::fs,b,h,w=>by
  simp only [eqFs] at h;split at h
  ·cases h
  ·rename_i hn;split at h
   ·rename_i b1 h1;split at h
    ·rename_i b2 h2;simp only [ar] at h;subst h;have hn':f.name≠ "_":=by simpa using hn
     obtain ⟨⟨td,htd⟩,hpos,hrun⟩:=hr _ _ _ _ _ _ h1 (hx.extract f.offset (P.cellsOf f.type)) (hy.extract f.offset (P.cellsOf f.type));have hxl:=hx.length;have hyl:=hy.length;simp only [OZ] at hxl hyl;have hp1:bY P f.type=false->f.offset<X.size/\0<P.cellsOf f.type:=by
      intro ha;obtain ⟨g,_⟩:=hpos ha;simp only [cS,cj] at g;omega
     have hp2:bY P f.type=false->f.offset<Y.size/\0<P.cellsOf f.type:=by
      intro ha;obtain ⟨_,g⟩:=hpos ha;simp only [cS,cj] at g;omega
     simp only [Op.eqFields,hn',ne_eq,Hk,aQ,ay,wW htd hp1,wW htd hp2,aB,hrun];cases b1
     ·simp
     ·simpa using Ld hr hx hy fs b2 h2 w
    ·cases h
   ·cases h
def tU(d:Nat)(e:TypeId)(n:Nat)(X Y:Array Value):List Nat->Sem Bool
 | []=>pure true
 | i::l=>do
  let a <-part e X (i*n);let b <-part e Y (i*n);let r <-Op.equalIn d e a b
  if(!r)=true then pure false else tU d e n X Y l
def ve(d:Nat){t e:TypeId}{len:Nat}{i:TypeInfo}(X Y:Array Value)(h:P.underlying t=some (.array len e))(hi:P.info? e=some i)(w:World):
  (Op.equalIn (d+1) t (.agg X) (.agg Y)).run P w=(tU d e (P.cellsOf e) X Y (List.range' 0 len)).run P w:=by
 simp only[Op.equalIn,ay,ba h,aB,gy hi];rw[Std.Legacy.Range.forIn_eq_forIn_range'];simp only[Std.Legacy.Range.size,tX,FU,tL];generalize List.range' 0 len=l
 induction l generalizing w with
 | nil=>simp[tU]
 | cons j l ih=>
  simp only[List.forIn_cons,tU,ay,Sem.run_ite];generalize(part e X (j*P.cellsOf e)).run P w=k;cases k with
  | ok a g=>
   simp only[aB];generalize(part e Y (j*P.cellsOf e)).run P g=n;cases n with
   | ok b f=>
    simp only[aB];generalize(Op.equalIn d e a b).run P f=m;cases m with
    | ok r c=>
     cases r
     ·simp only[aB,kV,aQ,aE]
     ·simp only[aB,dT,bU,aG,aE];exact ih c
    | halt x c=>simp[Result.andThen]
   | halt x f=>simp[Result.andThen]
  | halt x g=>simp[Result.andThen]
def OY{ι:Inj}{i:TypeId->List V->List V->Option Bool}{d:Nat}(r:EqOK P ι i d){e:TypeId}{q s:List V}{X Y:Array Value}(hx:VRs ι q X.toList)(hy:VRs ι s Y.toList):
  ∀(n j:Nat) (b:Bool),eqAr (i e) (P.cellsOf e) q s n j=some b->∀w,(tU d e (P.cellsOf e) X Y (List.range' j n)).run P w=.ok b w
 | 0,j,b,h,w=>by simp only[eqAr,ar]at h;subst h;simp[tU]
 | n+1,j,b,h,w=>by
  simp only[eqAr]at h;split at h
  ·rename_i b1 t;split at h
   ·rename_i b2 u;simp only[ar]at h;subst h;obtain⟨⟨v,f⟩,a,c⟩:=r _ _ _ _ _ _ t (hx.extract (j*P.cellsOf e) (P.cellsOf e)) (hy.extract (j*P.cellsOf e) (P.cellsOf e));have k:=hx.length;have p:=hy.length;simp only[OZ]at k p;have m:bY P e=false->j*P.cellsOf e<X.size/\0<P.cellsOf e:=by
     intro o;obtain⟨g,_⟩:=a o;simp only[cS,cj]at g;omega
    have l:bY P e=false->j*P.cellsOf e<Y.size/\0<P.cellsOf e:=by
     intro o;obtain⟨_,g⟩:=a o;simp only[cS,cj]at g;omega
    simp only[xd,tU,ay,wW f m,wW f l,aB,c];cases b1
    ·simp
    ·simpa using OY r hx hy n (j+1) b2 u w
   ·cases h
  ·cases h
def yo(l:aa):(ByteArray.mk l.toArray).toList=l:=by
 rw[ByteArray.toList_eq]
def H7{ι:Inj}:∀(n d:Nat),EqOK P ι (eqC P n) (n+d)
 | 0,d=>λt u x b X Y h=>by simp[eqC]at h
 | n+1,d=>by
  intro t u x b X Y h hx hy;have ih:=H7 (ι:=ι) n d;rw[show n+1+d=(n+d)+1 by omega];unfold eqC at h;split at h
  ·rename_i k c;split at h
   ·rename_i k1 a k2 g;split at h
    ·rename_i q;simp only[ar]at h;subst h;have q:=lM q;subst q;simp only[VRs,VR]at hx hy;obtain⟨_,_,m,rfl,rfl⟩:=hx;obtain⟨_,_,l,rfl,rfl⟩:=hy;refine⟨⟨_,c⟩,λ_=>by simp,λw=>?_⟩;have f:nR P t X=.int k1 a:=by simp[nR,bY,c,rj,<-qB,m]
     have o:nR P t Y=.int k1 g:=by simp[nR,bY,c,rj,<-qB,l]
     rw[f,o];exact run_equalIn_int w _ t k1 k a g c
    ·cases h
   ·cases h
  ·rename_i c;split at h
   ·rename_i a g;simp only[ar]at h;subst h;simp only[VRs,VR]at hx hy;obtain⟨_,_,m,rfl,rfl⟩:=hx;obtain⟨_,_,l,rfl,rfl⟩:=hy;refine⟨⟨_,c⟩,λ_=>by simp,λw=>?_⟩;have f:nR P t X=.bool a:=by simp[nR,bY,c,rj,<-qB,m]
    have o:nR P t Y=.bool g:=by simp[nR,bY,c,rj,<-qB,l]
    rw[f,o];exact run_equalIn_bool' w _ t a g c
   ·cases h
  ·rename_i c;split at h
   ·rename_i a g;simp only[ar]at h;subst h;simp only[VRs,VR]at hx hy;obtain⟨_,_,m,rfl,rfl⟩:=hx;obtain⟨_,_,l,rfl,rfl⟩:=hy;refine⟨⟨_,c⟩,λ_=>by simp,λw=>?_⟩;have f:nR P t X=.string ⟨a.toArray⟩:=by simp[nR,bY,c,rj,<-qB,m]
    have o:nR P t Y=.string ⟨g.toArray⟩:=by simp[nR,bY,c,rj,<-qB,l]
    rw[f,o,run_equalIn_string w _ t _ _ c,yo,yo]
   ·cases h
  ·rename_i v c;split at h
   ·cases h
   ·rename_i r;have s:P.fieldsOf t=v:=by simp[Program.fieldsOf,c]
    have f:∀X,nR P t X=.agg X:=λX=>by simp[nR,bY,c]
    refine⟨⟨_,c⟩,λp=>by simp[bY,c]at p,λw=>?_⟩;rw[f,f,run_equalIn_struct w _ t X Y (by rw[s];exact c) r,s];exact Ld ih hx hy _ _ h w
  ·rename_i len e c;split at h
   case h_2=>cases h
   rename_i j;have f:∀X,nR P t X=.agg X:=λX=>by simp[nR,bY,c]
   refine⟨⟨_,c⟩,λp=>by simp[bY,c]at p,λw=>?_⟩;rw[f,f];obtain⟨i,hi⟩:=cf j;rw[ve _ X Y c hi];exact OY ih hx hy _ _ _ h w
  ·cases h
end Go.Abs
