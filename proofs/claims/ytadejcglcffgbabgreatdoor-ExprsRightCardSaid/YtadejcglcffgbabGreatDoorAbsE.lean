
/- Comparisons of values: what the abstract one says of the model's own.
   Conditions: none; generic over the program. -/
import Derived.Test.YtadejcglcffgbabGreatDoorAbsD
set_option linter.unusedSimpArgs false
set_option linter.unusedVariables false
set_option linter.defProp false
namespace Go.Abs
variable {P:Program}
def ky(P:Program)(t:TypeId)(X:Array Value):Value:=if bA P t then .agg X else X.getD 0 undef
def rj{t:TypeId}{d:TypeDesc}(b:P.underlying t=some d){X:Array Value}{off:Nat}(h:bA P t=false->off<X.size/\0<P.cellsOf t)(w:World):
  (part t X off).run P w=.ok (ky P t (X.extract off (off+P.cellsOf t))) w:=by
 obtain⟨i,hi⟩:=kz b;unfold ky;cases a:bA P t with
 | true=>simp[part,iw b,a,ei hi]
 | false=>
  obtain⟨c,f⟩:=h a;simp only[part,ax,iw b,a,az,cj,aG];have:X[off]?=some X[off]:=by simp[c]
  rw[this];have e:(X.extract off (off+P.cellsOf t))[0]?=some X[off]:=by
   rw[Array.getElem?_extract,ad (by omega)];simp[c]
  simp[nD,e]
def VRs.extract{ι:Inj}{l:List V}{X:Array Value}(h:VRs ι l X.toList)(o n:Nat):VRs ι ((l.drop o).take n) (X.extract o (o+n)).toList:=by
 have:=(h.drop o).take n;have e:(X.extract o (o+n)).toList=(X.toList.drop o).take n:=by
  simp[Array.toList_extract,List.extract]
 rw[e];exact this
def EqOK(P:Program)(ι:Inj)(e:TypeId->List V->List V->Option Bool)(d:Nat):Prop:=
 ∀t a c b (X Y:Array Value),e t a c=some b->VRs ι a X.toList->VRs ι c Y.toList->
  (∃f,P.underlying t=some f)/\(bA P t=false->0<a.length/\0<c.length)/\∀w,(Op.equalIn d t (ky P t X) (ky P t Y)).run P w=.ok b w
def Gv {ι:Inj} {rec:TypeId->List V->List V->Option Bool} {d:Nat} (hr:EqOK P ι rec d) {xs ys:List V} {X Y:Array Value} (hx:VRs ι xs X.toList) (hy:VRs ι ys Y.toList):
  ∀(fs:List Field) (b:Bool),eqFs rec P.cellsOf xs ys fs=some b->∀w,(Op.eqFields d X Y fs).run P w=.ok b w
 | [],b,h,w=>by simp only [eqFs,aq] at h;subst h;simp [Op.eqFields]
 | f::fs,b,h,w=>by
  simp only [eqFs] at h;split at h
  ·cases h
  ·rename_i hn;split at h
   ·rename_i b1 h1;split at h
    ·rename_i b2 h2;simp only [aq] at h;subst h;have hn':f.name≠ "_":=by simpa using hn
     obtain ⟨⟨td,htd⟩,hpos,hrun⟩:=hr _ _ _ _ _ _ h1 (hx.extract f.offset (P.cellsOf f.type)) (hy.extract f.offset (P.cellsOf f.type));have hxl:=hx.length;have hyl:=hy.length;simp only [Ln] at hxl hyl;have hp1:bA P f.type=false->f.offset<X.size/\0<P.cellsOf f.type:=by
      intro ha;obtain ⟨g,_⟩:=hpos ha;simp only [dx,lY] at g;omega
     have hp2:bA P f.type=false->f.offset<Y.size/\0<P.cellsOf f.type:=by
      intro ha;obtain ⟨_,g⟩:=hpos ha;simp only [dx,lY] at g;omega
     simp only [Op.eqFields,hn',ne_eq,yU,bc,ax,rj htd hp1,rj htd hp2,az,hrun];cases b1
     ·simp
     ·simpa using Gv hr hx hy fs b2 h2 w
    ·cases h
   ·cases h
def oZ(d:Nat)(e:TypeId)(n:Nat)(X Y:Array Value):List Nat->Sem Bool
 | []=>pure true
 | i::l=>do
  let a <-part e X (i*n);let b <-part e Y (i*n);let r <-Op.equalIn d e a b
  if(!r)=true then pure false else oZ d e n X Y l
def qp(d:Nat){t e:TypeId}{len:Nat}{i:TypeInfo}(X Y:Array Value)(n:P.underlying t=some (.array len e))(hi:P.info? e=some i)(w:World):
  (Op.equalIn (d+1) t (.agg X) (.agg Y)).run P w=(oZ d e (P.cellsOf e) X Y (List.range' 0 len)).run P w:=by
 simp only[Op.equalIn,ax,aR n,az,ei hi];rw[Std.Legacy.Range.forIn_eq_forIn_range'];simp only[Std.Legacy.Range.size,Nat.sub_zero,zm,oJ];generalize List.range' 0 len=l
 induction l generalizing w with
 | nil=>simp[oZ]
 | cons j l ih=>
  simp only[List.forIn_cons,oZ,ax,Sem.run_ite];generalize(part e X (j*P.cellsOf e)).run P w=k;cases k with
  | ok a g=>
   simp only[az];generalize(part e Y (j*P.cellsOf e)).run P g=h;cases h with
   | ok b f=>
    simp only[az];generalize(Op.equalIn d e a b).run P f=m;cases m with
    | ok r c=>
     cases r
     ·simp only[az,jc,bc,aA]
     ·simp only[az,dD,cj,aG,aA];exact ih c
    | halt x c=>simp[Result.andThen]
   | halt x f=>simp[Result.andThen]
  | halt x g=>simp[Result.andThen]
def EX{ι:Inj}{i:TypeId->List V->List V->Option Bool}{d:Nat}(s:EqOK P ι i d){e:TypeId}{q r:List V}{X Y:Array Value}(hx:VRs ι q X.toList)(hy:VRs ι r Y.toList):
  ∀(n j:Nat) (b:Bool),eqAr (i e) (P.cellsOf e) q r n j=some b->∀w,(oZ d e (P.cellsOf e) X Y (List.range' j n)).run P w=.ok b w
 | 0,j,b,h,w=>by simp only[eqAr,aq]at h;subst h;simp[oZ]
 | n+1,j,b,h,w=>by
  simp only[eqAr]at h;split at h
  ·rename_i u x;split at h
   ·rename_i v t;simp only[aq]at h;subst h;obtain⟨⟨y,c⟩,a,f⟩:=s _ _ _ _ _ _ x (hx.extract (j*P.cellsOf e) (P.cellsOf e)) (hy.extract (j*P.cellsOf e) (P.cellsOf e));have m:=hx.length;have o:=hy.length;simp only[Ln]at m o;have k:bA P e=false->j*P.cellsOf e<X.size/\0<P.cellsOf e:=by
     intro p;obtain⟨g,_⟩:=a p;simp only[dx,lY]at g;omega
    have l:bA P e=false->j*P.cellsOf e<Y.size/\0<P.cellsOf e:=by
     intro p;obtain⟨_,g⟩:=a p;simp only[dx,lY]at g;omega
    simp only[si,oZ,ax,rj c k,rj c l,az,f];cases u
    ·simp
    ·simpa using EX s hx hy n (j+1) v t w
   ·cases h
  ·cases h
def s9(l:aa):(ByteArray.mk l.toArray).toList=l:=by
 rw[ByteArray.toList_eq]
def Be{ι:Inj}:∀(n d:Nat),EqOK P ι (eqC P n) (n+d)
 | 0,d=>λt u v b X Y h=>by simp[eqC]at h
 | n+1,d=>by
  intro t u v b X Y h hx hy;have ih:=Be (ι:=ι) n d;rw[show n+1+d=(n+d)+1 by omega];unfold eqC at h;split at h
  ·rename_i k c;split at h
   ·rename_i k1 a k2 g;split at h
    ·rename_i p;simp only[aq]at h;subst h;have p:=iL p;subst p;simp only[VRs,VR]at hx hy;obtain⟨_,_,o,rfl,rfl⟩:=hx;obtain⟨_,_,m,rfl,rfl⟩:=hy;refine⟨⟨_,c⟩,λ_=>by simp,λw=>?_⟩;have f:ky P t X=.int k1 a:=by simp[ky,bA,c,nD,<-oz,o]
     have j:ky P t Y=.int k1 g:=by simp[ky,bA,c,nD,<-oz,m]
     rw[f,j];exact run_equalIn_int w _ t k1 k a g c
    ·cases h
   ·cases h
  ·rename_i c;split at h
   ·rename_i a g;simp only[aq]at h;subst h;simp only[VRs,VR]at hx hy;obtain⟨_,_,o,rfl,rfl⟩:=hx;obtain⟨_,_,m,rfl,rfl⟩:=hy;refine⟨⟨_,c⟩,λ_=>by simp,λw=>?_⟩;have f:ky P t X=.bool a:=by simp[ky,bA,c,nD,<-oz,o]
    have j:ky P t Y=.bool g:=by simp[ky,bA,c,nD,<-oz,m]
    rw[f,j];exact run_equalIn_bool' w _ t a g c
   ·cases h
  ·rename_i c;split at h
   ·rename_i a g;simp only[aq]at h;subst h;simp only[VRs,VR]at hx hy;obtain⟨_,_,o,rfl,rfl⟩:=hx;obtain⟨_,_,m,rfl,rfl⟩:=hy;refine⟨⟨_,c⟩,λ_=>by simp,λw=>?_⟩;have f:ky P t X=.string ⟨a.toArray⟩:=by simp[ky,bA,c,nD,<-oz,o]
    have j:ky P t Y=.string ⟨g.toArray⟩:=by simp[ky,bA,c,nD,<-oz,m]
    rw[f,j,run_equalIn_string w _ t _ _ c,s9,s9]
   ·cases h
  ·rename_i x c;split at h
   ·cases h
   ·rename_i r;have s:P.fieldsOf t=x:=by simp[Program.fieldsOf,c]
    have f:∀X,ky P t X=.agg X:=λX=>by simp[ky,bA,c]
    refine⟨⟨_,c⟩,λq=>by simp[bA,c]at q,λw=>?_⟩;rw[f,f,run_equalIn_struct w _ t X Y (by rw[s];exact c) r,s];exact Gv ih hx hy _ _ h w
  ·rename_i len e c;split at h
   case h_2=>cases h
   rename_i l;have f:∀X,ky P t X=.agg X:=λX=>by simp[ky,bA,c]
   refine⟨⟨_,c⟩,λq=>by simp[bA,c]at q,λw=>?_⟩;rw[f,f];obtain⟨i,hi⟩:=bC l;rw[qp _ X Y c hi];exact EX ih hx hy _ _ _ h w
  ·cases h
end Go.Abs
