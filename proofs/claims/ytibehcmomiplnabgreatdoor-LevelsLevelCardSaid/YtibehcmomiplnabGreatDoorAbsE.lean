
/- Comparisons of values: what the abstract one says of the model's own.
   Conditions: none; generic over the program. -/
import Derived.Test.YtibehcmomiplnabGreatDoorAbsD
set_option linter.unusedSimpArgs false
set_option linter.unusedVariables false
set_option linter.defProp false
namespace Go.Abs
variable {P:Program}
def pB(P:Program)(t:TypeId)(X:Array Value):Value:=if cD P t then .agg X else X.getD 0 undef
def yE{t:TypeId}{d:TypeDesc}(b:P.underlying t=some d){X:Array Value}{off:Nat}(h:cD P t=false->off<X.size/\0<P.cellsOf t)(w:World):
  (part t X off).run P w=.ok (pB P t (X.extract off (off+P.cellsOf t))) w:=by
 obtain⟨i,hi⟩:=pG b;unfold pB;cases a:cD P t with
 | true=>simp[part,lZ b,a,ig hi]
 | false=>
  obtain⟨c,f⟩:=h a;simp only[part,ay,lZ b,a,aE,bI,aF];have:X[off]?=some X[off]:=by simp[c]
  rw[this];have e:(X.extract off (off+P.cellsOf t))[0]?=some X[off]:=by
   rw[Array.getElem?_extract,ae (by omega)];simp[c]
  simp[um,e]
def VRs.extract{ι:Inj}{l:List V}{X:Array Value}(h:VRs ι l X.toList)(o n:Nat):VRs ι ((l.drop o).take n) (X.extract o (o+n)).toList:=by
 have:=(h.drop o).take n;have e:(X.extract o (o+n)).toList=(X.toList.drop o).take n:=by
  simp[Array.toList_extract,List.extract]
 rw[e];exact this
def EqOK(P:Program)(ι:Inj)(a:TypeId->List V->List V->Option Bool)(d:Nat):Prop:=
 ∀t c e b (X Y:Array Value),a t c e=some b->VRs ι c X.toList->VRs ι e Y.toList->
  (∃f,P.underlying t=some f)/\(cD P t=false->0<c.length/\0<e.length)/\∀w,(Op.equalIn d t (pB P t X) (pB P t Y)).run P w=.ok b w
def P4 {ι:Inj} {rec:TypeId->List V->List V->Option Bool} {d:Nat} (hr:EqOK P ι rec d) {xs ys:List V} {X Y:Array Value} (hx:VRs ι xs X.toList) (hy:VRs ι ys Y.toList):
  ∀(fs:List Field) (b:Bool),eqFs rec P.cellsOf xs ys fs=some b->∀w,(Op.eqFields d X Y fs).run P w=.ok b w
 | [],b,h,w=>by simp only [eqFs,aw] at h;subst h;simp [Op.eqFields]
 | f::fs,b,h,w=>by
  simp only [eqFs] at h;split at h
  ·cases h
  ·rename_i hn;split at h
   ·rename_i b1 h1;split at h
    ·rename_i b2 h2;simp only [aw] at h;subst h;have hn':f.name≠ "_":=by simpa using hn
     obtain ⟨⟨td,htd⟩,hpos,hrun⟩:=hr _ _ _ _ _ _ h1 (hx.extract f.offset (P.cellsOf f.type)) (hy.extract f.offset (P.cellsOf f.type));have hxl:=hx.length;have hyl:=hy.length;simp only [PG] at hxl hyl;have hp1:cD P f.type=false->f.offset<X.size/\0<P.cellsOf f.type:=by
      intro ha;obtain ⟨g,_⟩:=hpos ha;simp only [dN,cg] at g;omega
     have hp2:cD P f.type=false->f.offset<Y.size/\0<P.cellsOf f.type:=by
      intro ha;obtain ⟨_,g⟩:=hpos ha;simp only [dN,cg] at g;omega
     simp only [Op.eqFields,hn',ne_eq,H7,aS,ay,yE htd hp1,yE htd hp2,aE,hrun];cases b1
     ·simp
     ·simpa using P4 hr hx hy fs b2 h2 w
    ·cases h
   ·cases h
def vt(d:Nat)(e:TypeId)(n:Nat)(X Y:Array Value):List Nat->Sem Bool
 | []=>pure true
 | i::l=>do
  let a <-part e X (i*n);let b <-part e Y (i*n);let r <-Op.equalIn d e a b
  if(!r)=true then pure false else vt d e n X Y l
def xg(d:Nat){t e:TypeId}{len:Nat}{i:TypeInfo}(X Y:Array Value)(h:P.underlying t=some (.array len e))(hi:P.info? e=some i)(w:World):
  (Op.equalIn (d+1) t (.agg X) (.agg Y)).run P w=(vt d e (P.cellsOf e) X Y (List.range' 0 len)).run P w:=by
 simp only[Op.equalIn,ay,bu h,aE,ig hi];rw[Std.Legacy.Range.forIn_eq_forIn_range'];simp only[Std.Legacy.Range.size,uo,Jm,vG];generalize List.range' 0 len=l
 induction l generalizing w with
 | nil=>simp[vt]
 | cons j l ih=>
  simp only[List.forIn_cons,vt,ay,Sem.run_ite];generalize(part e X (j*P.cellsOf e)).run P w=n;cases n with
  | ok a f=>
   simp only[aE];generalize(part e Y (j*P.cellsOf e)).run P f=m;cases m with
   | ok b g=>
    simp only[aE];generalize(Op.equalIn d e a b).run P g=k;cases k with
    | ok r c=>
     cases r
     ·simp only[aE,kH,aS,aH]
     ·simp only[aE,dU,bI,aF,aH];exact ih c
    | halt x c=>simp[Result.andThen]
   | halt x g=>simp[Result.andThen]
  | halt x f=>simp[Result.andThen]
def NU{ι:Inj}{i:TypeId->List V->List V->Option Bool}{d:Nat}(q:EqOK P ι i d){e:TypeId}{s r:List V}{X Y:Array Value}(hx:VRs ι s X.toList)(hy:VRs ι r Y.toList):
  ∀(n j:Nat) (b:Bool),eqAr (i e) (P.cellsOf e) s r n j=some b->∀w,(vt d e (P.cellsOf e) X Y (List.range' j n)).run P w=.ok b w
 | 0,j,b,h,w=>by simp only[eqAr,aw]at h;subst h;simp[vt]
 | n+1,j,b,h,w=>by
  simp only[eqAr]at h;split at h
  ·rename_i b1 t;split at h
   ·rename_i b2 u;simp only[aw]at h;subst h;obtain⟨⟨v,f⟩,a,c⟩:=q _ _ _ _ _ _ t (hx.extract (j*P.cellsOf e) (P.cellsOf e)) (hy.extract (j*P.cellsOf e) (P.cellsOf e));have l:=hx.length;have p:=hy.length;simp only[PG]at l p;have o:cD P e=false->j*P.cellsOf e<X.size/\0<P.cellsOf e:=by
     intro k;obtain⟨g,_⟩:=a k;simp only[dN,cg]at g;omega
    have m:cD P e=false->j*P.cellsOf e<Y.size/\0<P.cellsOf e:=by
     intro k;obtain⟨_,g⟩:=a k;simp only[dN,cg]at g;omega
    simp only[Aj,vt,ay,yE f o,yE f m,aE,c];cases b1
    ·simp
    ·simpa using NU q hx hy n (j+1) b2 u w
   ·cases h
  ·cases h
def Bf(l:aa):(ByteArray.mk l.toArray).toList=l:=by
 rw[ByteArray.toList_eq]
def JE{ι:Inj}:∀(n d:Nat),EqOK P ι (eqC P n) (n+d)
 | 0,d=>λt x v b X Y h=>by simp[eqC]at h
 | n+1,d=>by
  intro t x v b X Y h hx hy;have ih:=JE (ι:=ι) n d;rw[show n+1+d=(n+d)+1 by omega];unfold eqC at h;split at h
  ·rename_i k c;split at h
   ·rename_i k1 a k2 g;split at h
    ·rename_i r;simp only[aw]at h;subst h;have r:=mh r;subst r;simp only[VRs,VR]at hx hy;obtain⟨_,_,o,rfl,rfl⟩:=hx;obtain⟨_,_,m,rfl,rfl⟩:=hy;refine⟨⟨_,c⟩,λ_=>by simp,λw=>?_⟩;have f:pB P t X=.int k1 a:=by simp[pB,cD,c,um,<-sa,o]
     have j:pB P t Y=.int k1 g:=by simp[pB,cD,c,um,<-sa,m]
     rw[f,j];exact run_equalIn_int w _ t k1 k a g c
    ·cases h
   ·cases h
  ·rename_i c;split at h
   ·rename_i a g;simp only[aw]at h;subst h;simp only[VRs,VR]at hx hy;obtain⟨_,_,o,rfl,rfl⟩:=hx;obtain⟨_,_,m,rfl,rfl⟩:=hy;refine⟨⟨_,c⟩,λ_=>by simp,λw=>?_⟩;have f:pB P t X=.bool a:=by simp[pB,cD,c,um,<-sa,o]
    have j:pB P t Y=.bool g:=by simp[pB,cD,c,um,<-sa,m]
    rw[f,j];exact run_equalIn_bool' w _ t a g c
   ·cases h
  ·rename_i c;split at h
   ·rename_i a g;simp only[aw]at h;subst h;simp only[VRs,VR]at hx hy;obtain⟨_,_,o,rfl,rfl⟩:=hx;obtain⟨_,_,m,rfl,rfl⟩:=hy;refine⟨⟨_,c⟩,λ_=>by simp,λw=>?_⟩;have f:pB P t X=.string ⟨a.toArray⟩:=by simp[pB,cD,c,um,<-sa,o]
    have j:pB P t Y=.string ⟨g.toArray⟩:=by simp[pB,cD,c,um,<-sa,m]
    rw[f,j,run_equalIn_string w _ t _ _ c,Bf,Bf]
   ·cases h
  ·rename_i u c;split at h
   ·cases h
   ·rename_i q;have s:P.fieldsOf t=u:=by simp[Program.fieldsOf,c]
    have f:∀X,pB P t X=.agg X:=λX=>by simp[pB,cD,c]
    refine⟨⟨_,c⟩,λp=>by simp[cD,c]at p,λw=>?_⟩;rw[f,f,run_equalIn_struct w _ t X Y (by rw[s];exact c) q,s];exact P4 ih hx hy _ _ h w
  ·rename_i len e c;split at h
   case h_2=>cases h
   rename_i l;have f:∀X,pB P t X=.agg X:=λX=>by simp[pB,cD,c]
   refine⟨⟨_,c⟩,λp=>by simp[cD,c]at p,λw=>?_⟩;rw[f,f];obtain⟨i,hi⟩:=cG l;rw[xg _ X Y c hi];exact NU ih hx hy _ _ _ h w
  ·cases h
end Go.Abs
