
/- Comparisons of values: what the abstract one says of the model's own.
   Conditions: none; generic over the program. -/
import Derived.Test.YthemneooekobkabGreatDoorAbsD
set_option linter.unusedSimpArgs false
set_option linter.unusedVariables false
namespace Go.Abs
variable {P:Program}
def np (P:Program) (t:TypeId) (X:Array Value):Value:=if bY P t then .agg X else X.getD 0 undef
theorem wv {t:TypeId} {d:TypeDesc} (a:P.underlying t=some d) {X:Array Value} {off:Nat} (h:bY P t=false->off<X.size/\0<P.cellsOf t) (w:World):
  (part t X off).run P w=.ok (np P t (X.extract off (off+P.cellsOf t))) w:=by
 obtain ⟨i,hi⟩:=nc a;unfold np;cases b:bY P t with
 | true=>simp [part,kJ a,b,gv hi]
 | false=>
  obtain ⟨c,f⟩:=h b;simp only [part,aw,kJ a,b,az,bv,aB];have:X[off]?=some X[off]:=by simp [c]
  rw [this];have e:(X.extract off (off+P.cellsOf t))[0]?=some X[off]:=by
   rw [Array.getElem?_extract,ae (by omega)];simp [c]
  simp [qW,e]
theorem VRs.extract {ι:Inj} {l:List V} {X:Array Value} (h:VRs ι l X.toList) (o n:Nat):VRs ι ((l.drop o).take n) (X.extract o (o+n)).toList:=by
 have:=(h.drop o).take n;have e:(X.extract o (o+n)).toList=(X.toList.drop o).take n:=by
  simp [Array.toList_extract,List.extract]
 rw [e];exact this
def EqOK (P:Program) (ι:Inj) (a:TypeId->List V->List V->Option Bool) (d:Nat):Prop:=
 ∀t c e b (X Y:Array Value),a t c e=some b->VRs ι c X.toList->VRs ι e Y.toList->
  (∃f,P.underlying t=some f)/\(bY P t=false->0<c.length/\0<e.length)/\∀w,(Op.equalIn d t (np P t X) (np P t Y)).run P w=.ok b w
theorem NU {ι:Inj} {rec:TypeId->List V->List V->Option Bool} {d:Nat} (hr:EqOK P ι rec d) {xs ys:List V} {X Y:Array Value} (hx:VRs ι xs X.toList) (hy:VRs ι ys Y.toList):
  ∀(fs:List Field) (b:Bool),eqFs rec P.cellsOf xs ys fs=some b->∀w,(Op.eqFields d X Y fs).run P w=.ok b w
 | [],b,h,w=>by simp only [eqFs,au] at h;subst h;simp [Op.eqFields]
 | f::fs,b,h,w=>by
  simp only [eqFs] at h;split at h
  ·cases h
  ·rename_i hn;split at h
   ·rename_i b1 h1;split at h
    ·rename_i b2 h2;simp only [au] at h;subst h;have hn':f.name≠ "_":=by simpa using hn
     obtain ⟨⟨td,htd⟩,hpos,hrun⟩:=hr _ _ _ _ _ _ h1 (hx.extract f.offset (P.cellsOf f.type)) (hy.extract f.offset (P.cellsOf f.type));have hxl:=hx.length;have hyl:=hy.length;simp only [NQ] at hxl hyl;have hp1:bY P f.type=false->f.offset<X.size/\0<P.cellsOf f.type:=by
      intro ha;obtain ⟨g,_⟩:=hpos ha;simp only [dG,bN] at g;omega
     have hp2:bY P f.type=false->f.offset<Y.size/\0<P.cellsOf f.type:=by
      intro ha;obtain ⟨_,g⟩:=hpos ha;simp only [dG,bN] at g;omega
     simp only [Op.eqFields,hn',ne_eq,FI,aL,aw,wv htd hp1,wv htd hp2,az,hrun];cases b1
     ·simp
     ·simpa using NU hr hx hy fs b2 h2 w
    ·cases h
   ·cases h
def tC (d:Nat) (e:TypeId) (n:Nat) (X Y:Array Value):List Nat->Sem Bool
 | []=>pure true
 | i::l=>do
  let a <-part e X (i*n);let b <-part e Y (i*n);let r <-Op.equalIn d e a b
  if (!r)=true then pure false else tC d e n X Y l
theorem uX (d:Nat) {t e:TypeId} {len:Nat} {i:TypeInfo} (X Y:Array Value) (n:P.underlying t=some (.array len e)) (hi:P.info? e=some i) (w:World):
  (Op.equalIn (d+1) t (.agg X) (.agg Y)).run P w=(tC d e (P.cellsOf e) X Y (List.range' 0 len)).run P w:=by
 simp only [Op.equalIn,aw,be n,az,gv hi];rw [Std.Legacy.Range.forIn_eq_forIn_range'];simp only [Std.Legacy.Range.size,oM,Fp,tG];generalize List.range' 0 len=l
 induction l generalizing w with
 | nil=>simp [tC]
 | cons j l ih=>
  simp only [List.forIn_cons,tC,aw,Sem.run_ite];generalize (part e X (j*P.cellsOf e)).run P w=k;cases k with
  | ok a f=>
   simp only [az];generalize (part e Y (j*P.cellsOf e)).run P f=h;cases h with
   | ok b c=>
    simp only [az];generalize (Op.equalIn d e a b).run P c=m;cases m with
    | ok r g=>
     cases r
     ·simp only [az,il,aL,aD]
     ·simp only [az,ci,bv,aB,aD];exact ih g
    | halt x g=>simp [Result.andThen]
   | halt x c=>simp [Result.andThen]
  | halt x f=>simp [Result.andThen]
theorem Oi {ι:Inj} {c:TypeId->List V->List V->Option Bool} {d:Nat} (s:EqOK P ι c d) {e:TypeId} {r q:List V} {X Y:Array Value} (hx:VRs ι r X.toList) (hy:VRs ι q Y.toList):
  ∀(n j:Nat) (b:Bool),eqAr (c e) (P.cellsOf e) r q n j=some b->∀w,(tC d e (P.cellsOf e) X Y (List.range' j n)).run P w=.ok b w
 | 0,j,b,h,w=>by simp only [eqAr,au] at h;subst h;simp [tC]
 | n+1,j,b,h,w=>by
  simp only [eqAr] at h;split at h
  ·rename_i b1 t;split at h
   ·rename_i b2 u;simp only [au] at h;subst h;obtain ⟨⟨v,i⟩,a,f⟩:=s _ _ _ _ _ _ t (hx.extract (j*P.cellsOf e) (P.cellsOf e)) (hy.extract (j*P.cellsOf e) (P.cellsOf e));have o:=hx.length;have k:=hy.length;simp only [NQ] at o k;have l:bY P e=false->j*P.cellsOf e<X.size/\0<P.cellsOf e:=by
     intro p;obtain ⟨g,_⟩:=a p;simp only [dG,bN] at g;omega
    have m:bY P e=false->j*P.cellsOf e<Y.size/\0<P.cellsOf e:=by
     intro p;obtain ⟨_,g⟩:=a p;simp only [dG,bN] at g;omega
    simp only [yg,tC,aw,wv i l,wv i m,az,f];cases b1
    ·simp
    ·simpa using Oi s hx hy n (j+1) b2 u w
   ·cases h
  ·cases h
theorem xT (l:aa):(ByteArray.mk l.toArray).toList=l:=by
 rw [ByteArray.toList_eq]
theorem Im {ι:Inj}:∀(n d:Nat),EqOK P ι (eqC P n) (n+d)
 | 0,d=>λt v x b X Y h=>by simp [eqC] at h
 | n+1,d=>by
  intro t v x b X Y h hx hy;have ih:=Im (ι:=ι) n d;rw [show n+1+d=(n+d)+1 by omega];unfold eqC at h;split at h
  ·rename_i k c;split at h
   ·rename_i k1 a k2 g;split at h
    ·rename_i p;simp only [au] at h;subst h;have p:=li p;subst p;simp only [VRs,VR] at hx hy;obtain ⟨_,_,j,rfl,rfl⟩:=hx;obtain ⟨_,_,m,rfl,rfl⟩:=hy;refine ⟨⟨_,c⟩,λ_=>by simp,λw=>?_⟩;have f:np P t X=.int k1 a:=by simp [np,bY,c,qW,<-qK,j]
     have o:np P t Y=.int k1 g:=by simp [np,bY,c,qW,<-qK,m]
     rw [f,o];exact run_equalIn_int w _ t k1 k a g c
    ·cases h
   ·cases h
  ·rename_i c;split at h
   ·rename_i a g;simp only [au] at h;subst h;simp only [VRs,VR] at hx hy;obtain ⟨_,_,j,rfl,rfl⟩:=hx;obtain ⟨_,_,m,rfl,rfl⟩:=hy;refine ⟨⟨_,c⟩,λ_=>by simp,λw=>?_⟩;have f:np P t X=.bool a:=by simp [np,bY,c,qW,<-qK,j]
    have o:np P t Y=.bool g:=by simp [np,bY,c,qW,<-qK,m]
    rw [f,o];exact run_equalIn_bool' w _ t a g c
   ·cases h
  ·rename_i c;split at h
   ·rename_i a g;simp only [au] at h;subst h;simp only [VRs,VR] at hx hy;obtain ⟨_,_,j,rfl,rfl⟩:=hx;obtain ⟨_,_,m,rfl,rfl⟩:=hy;refine ⟨⟨_,c⟩,λ_=>by simp,λw=>?_⟩;have f:np P t X=.string ⟨a.toArray⟩:=by simp [np,bY,c,qW,<-qK,j]
    have o:np P t Y=.string ⟨g.toArray⟩:=by simp [np,bY,c,qW,<-qK,m]
    rw [f,o,run_equalIn_string w _ t _ _ c,xT,xT]
   ·cases h
  ·rename_i u c;split at h
   ·cases h
   ·rename_i q;have s:P.fieldsOf t=u:=by simp [Program.fieldsOf,c]
    have f:∀X,np P t X=.agg X:=λX=>by simp [np,bY,c]
    refine ⟨⟨_,c⟩,λr=>by simp [bY,c] at r,λw=>?_⟩;rw [f,f,run_equalIn_struct w _ t X Y (by rw [s];exact c) q,s];exact NU ih hx hy _ _ h w
  ·rename_i len e c;split at h
   case h_2=>cases h
   rename_i l;have f:∀X,np P t X=.agg X:=λX=>by simp [np,bY,c]
   refine ⟨⟨_,c⟩,λr=>by simp [bY,c] at r,λw=>?_⟩;rw [f,f];obtain ⟨i,hi⟩:=cf l;rw [uX _ X Y c hi];exact Oi ih hx hy _ _ _ h w
  ·cases h
end Go.Abs
