/- Comparisons of values: what the abstract one says of the model's own.
   Conditions: none; generic over the program. -/
import Derived.Test.YtplhepcdmkbioaaGreatDoorAbsD
namespace Go.Abs
variable {P:Program}
def iA (P:Program) (t:TypeId) (X:Array Value):Value:=if aP P t then .agg X else X.getD 0 undef
theorem nX {t:TypeId} {d:TypeDesc} (hd:P.underlying t=some d) {X:Array Value} {off:Nat} (h:aP P t=false->off<X.size/\0<P.cellsOf t) (w:World):
  (part t X off).run P w=.ok (iA P t (X.extract off (off+P.cellsOf t))) w:=by
 obtain ⟨i,hi⟩:=iy hd
 unfold iA
 cases ha:aP P t with
 | true=>simp [part,fR hd,ha,dr hi]
 | false=>
  obtain ⟨h1,h2⟩:=h ha
  simp only [part,Sem.run_bind,fR hd,ha,Result.andThen_ok,Bool.false_eq_true,if_false]
  have:X[off]?=some X[off]:=by simp [h1]
  rw [this]
  have e:(X.extract off (off+P.cellsOf t))[0]?=some X[off]:=by
   rw [Array.getElem?_extract,if_pos (by omega)]
   simp [h1]
  simp [Array.getD_eq_getD_getElem?,e]
theorem VRs.extract {ι:Inj} {l:List V} {X:Array Value} (h:VRs ι l X.toList) (o n:Nat):VRs ι ((l.drop o).take n) (X.extract o (o+n)).toList:=by
 have:=(h.drop o).take n
 have e:(X.extract o (o+n)).toList=(X.toList.drop o).take n:=by
  simp [Array.toList_extract,List.extract]
 rw [e];exact this
def EqOK (P:Program) (ι:Inj) (rec:TypeId->List V->List V->Option Bool) (d:Nat):Prop:=
 ∀t xs ys b (X Y:Array Value),rec t xs ys=some b->VRs ι xs X.toList->VRs ι ys Y.toList->
  (∃td,P.underlying t=some td)/\(aP P t=false->0<xs.length/\0<ys.length)/\∀w,(Op.equalIn d t (iA P t X) (iA P t Y)).run P w=.ok b w
theorem xH {ι:Inj} {rec:TypeId->List V->List V->Option Bool} {d:Nat} (hr:EqOK P ι rec d) {xs ys:List V} {X Y:Array Value} (hx:VRs ι xs X.toList) (hy:VRs ι ys Y.toList):
  ∀(fs:List Field) (b:Bool),eqFs rec P.cellsOf xs ys fs=some b->∀w,(Op.eqFields d X Y fs).run P w=.ok b w
 | [],b,h,w=>by simp only [eqFs,Option.some.injEq] at h;subst h;simp [Op.eqFields]
 | f::fs,b,h,w=>by
  simp only [eqFs] at h
  split at h
  ·cases h
  ·rename_i hn
   split at h
   ·rename_i b1 h1
    split at h
    ·rename_i b2 h2
     simp only [Option.some.injEq] at h;subst h
     have hn':f.name≠ "_":=by simpa using hn
     obtain ⟨⟨td,htd⟩,hpos,hrun⟩:=hr _ _ _ _ _ _ h1 (hx.extract f.offset (P.cellsOf f.type)) (hy.extract f.offset (P.cellsOf f.type))
     have hxl:=hx.length
     have hyl:=hy.length
     simp only [Array.length_toList] at hxl hyl
     have hp1:aP P f.type=false->f.offset<X.size/\0<P.cellsOf f.type:=by
      intro ha
      obtain ⟨g,_⟩:=hpos ha
      simp only [List.length_take,List.length_drop] at g
      omega
     have hp2:aP P f.type=false->f.offset<Y.size/\0<P.cellsOf f.type:=by
      intro ha
      obtain ⟨_,g⟩:=hpos ha
      simp only [List.length_take,List.length_drop] at g
      omega
     simp only [Op.eqFields,hn',ne_eq,not_false_eq_true,if_true,Sem.run_bind,nX htd hp1,nX htd hp2,Result.andThen_ok,hrun]
     cases b1
     ·simp
     ·simpa using xH hr hx hy fs b2 h2 w
    ·cases h
   ·cases h
def lQ (d:Nat) (e:TypeId) (n:Nat) (X Y:Array Value):List Nat->Sem Bool
 | []=>pure true
 | i::l=>do
  let a <-part e X (i*n)
  let b <-part e Y (i*n)
  let r <-Op.equalIn d e a b
  if (!r)=true then pure false else lQ d e n X Y l
theorem m6 (d:Nat) {t e:TypeId} {len:Nat} {i:TypeInfo} (X Y:Array Value) (ht:P.underlying t=some (.array len e)) (hi:P.info? e=some i) (w:World):
  (Op.equalIn (d+1) t (.agg X) (.agg Y)).run P w=(lQ d e (P.cellsOf e) X Y (List.range' 0 len)).run P w:=by
 simp only [Op.equalIn,Sem.run_bind,run_underlying ht,Result.andThen_ok,dr hi]
 rw [Std.Legacy.Range.forIn_eq_forIn_range']
 simp only [Std.Legacy.Range.size,Nat.sub_zero,Nat.add_sub_cancel,Nat.div_one]
 generalize List.range' 0 len=l
 induction l generalizing w with
 | nil=>simp [lQ]
 | cons j l ih=>
  simp only [List.forIn_cons,lQ,Sem.run_bind,Sem.run_ite]
  generalize (part e X (j*P.cellsOf e)).run P w=r1
  cases r1 with
  | ok a w1=>
   simp only [Result.andThen_ok]
   generalize (part e Y (j*P.cellsOf e)).run P w1=r2
   cases r2 with
   | ok b w2=>
    simp only [Result.andThen_ok]
    generalize (Op.equalIn d e a b).run P w2=r3
    cases r3 with
    | ok r w3=>
     cases r
     ·simp only [Result.andThen_ok,Bool.not_false,if_true,Sem.run_pure]
     ·simp only [Result.andThen_ok,Bool.not_true,Bool.false_eq_true,if_false,Sem.run_pure]
      exact ih w3
    | halt x w3=>simp [Result.andThen]
   | halt x w2=>simp [Result.andThen]
  | halt x w1=>simp [Result.andThen]
theorem xF {ι:Inj} {rec:TypeId->List V->List V->Option Bool} {d:Nat} (hr:EqOK P ι rec d) {e:TypeId} {xs ys:List V} {X Y:Array Value} (hx:VRs ι xs X.toList) (hy:VRs ι ys Y.toList):
  ∀(n j:Nat) (b:Bool),eqAr (rec e) (P.cellsOf e) xs ys n j=some b->∀w,(lQ d e (P.cellsOf e) X Y (List.range' j n)).run P w=.ok b w
 | 0,j,b,h,w=>by simp only [eqAr,Option.some.injEq] at h;subst h;simp [lQ]
 | n+1,j,b,h,w=>by
  simp only [eqAr] at h
  split at h
  ·rename_i b1 h1
   split at h
   ·rename_i b2 h2
    simp only [Option.some.injEq] at h;subst h
    obtain ⟨⟨td,htd⟩,hpos,hrun⟩:=hr _ _ _ _ _ _ h1 (hx.extract (j*P.cellsOf e) (P.cellsOf e)) (hy.extract (j*P.cellsOf e) (P.cellsOf e))
    have hxl:=hx.length
    have hyl:=hy.length
    simp only [Array.length_toList] at hxl hyl
    have hp1:aP P e=false->j*P.cellsOf e<X.size/\0<P.cellsOf e:=by
     intro ha
     obtain ⟨g,_⟩:=hpos ha
     simp only [List.length_take,List.length_drop] at g
     omega
    have hp2:aP P e=false->j*P.cellsOf e<Y.size/\0<P.cellsOf e:=by
     intro ha
     obtain ⟨_,g⟩:=hpos ha
     simp only [List.length_take,List.length_drop] at g
     omega
    simp only [List.range'_succ,lQ,Sem.run_bind,nX htd hp1,nX htd hp2,Result.andThen_ok,hrun]
    cases b1
    ·simp
    ·simpa using xF hr hx hy n (j+1) b2 h2 w
   ·cases h
  ·cases h
theorem pL (l:List UInt8):(ByteArray.mk l.toArray).toList=l:=by
 rw [ByteArray.toList_eq]
theorem uS {ι:Inj}:∀(n d:Nat),EqOK P ι (eqC P n) (n+d)
 | 0,d=>λt xs ys b X Y h=>by simp [eqC] at h
 | n+1,d=>by
  intro t xs ys b X Y h hx hy
  have ih:=uS (ι:=ι) n d
  rw [show n+1+d=(n+d)+1 by omega]
  unfold eqC at h
  split at h
  ·rename_i k hd
   split at h
   ·rename_i k1 a k2 b'
    split at h
    ·rename_i hk
     simp only [Option.some.injEq] at h;subst h
     have hk:=gi hk
     subst hk
     simp only [VRs,VR] at hx hy
     obtain ⟨_,_,hX,rfl,rfl⟩:=hx
     obtain ⟨_,_,hY,rfl,rfl⟩:=hy
     refine ⟨⟨_,hd⟩,λ_=>by simp,λw=>?_⟩
     have e1:iA P t X=.int k1 a:=by simp [iA,aP,hd,Array.getD_eq_getD_getElem?,<-Array.getElem?_toList,hX]
     have e2:iA P t Y=.int k1 b':=by simp [iA,aP,hd,Array.getD_eq_getD_getElem?,<-Array.getElem?_toList,hY]
     rw [e1,e2]
     exact run_equalIn_int w _ t k1 k a b' hd
    ·cases h
   ·cases h
  ·rename_i hd
   split at h
   ·rename_i a b'
    simp only [Option.some.injEq] at h;subst h
    simp only [VRs,VR] at hx hy
    obtain ⟨_,_,hX,rfl,rfl⟩:=hx
    obtain ⟨_,_,hY,rfl,rfl⟩:=hy
    refine ⟨⟨_,hd⟩,λ_=>by simp,λw=>?_⟩
    have e1:iA P t X=.bool a:=by simp [iA,aP,hd,Array.getD_eq_getD_getElem?,<-Array.getElem?_toList,hX]
    have e2:iA P t Y=.bool b':=by simp [iA,aP,hd,Array.getD_eq_getD_getElem?,<-Array.getElem?_toList,hY]
    rw [e1,e2]
    exact run_equalIn_bool' w _ t a b' hd
   ·cases h
  ·rename_i hd
   split at h
   ·rename_i a b'
    simp only [Option.some.injEq] at h;subst h
    simp only [VRs,VR] at hx hy
    obtain ⟨_,_,hX,rfl,rfl⟩:=hx
    obtain ⟨_,_,hY,rfl,rfl⟩:=hy
    refine ⟨⟨_,hd⟩,λ_=>by simp,λw=>?_⟩
    have e1:iA P t X=.string ⟨a.toArray⟩:=by simp [iA,aP,hd,Array.getD_eq_getD_getElem?,<-Array.getElem?_toList,hX]
    have e2:iA P t Y=.string ⟨b'.toArray⟩:=by simp [iA,aP,hd,Array.getD_eq_getD_getElem?,<-Array.getElem?_toList,hY]
    rw [e1,e2,run_equalIn_string w _ t _ _ hd,pL,pL]
   ·cases h
  ·rename_i fs hd
   split at h
   ·cases h
   ·rename_i hst
    have hf:P.fieldsOf t=fs:=by simp [Program.fieldsOf,hd]
    have e1:∀X,iA P t X=.agg X:=λX=>by simp [iA,aP,hd]
    refine ⟨⟨_,hd⟩,λhn=>by simp [aP,hd] at hn,λw=>?_⟩
    rw [e1,e1,run_equalIn_struct w _ t X Y (by rw [hf];exact hd) hst,hf]
    exact xH ih hx hy _ _ h w
  ·rename_i len e hd
   split at h
   case h_2=>cases h
   rename_i hpos
   have e1:∀X,iA P t X=.agg X:=λX=>by simp [iA,aP,hd]
   refine ⟨⟨_,hd⟩,λhn=>by simp [aP,hd] at hn,λw=>?_⟩
   rw [e1,e1]
   obtain ⟨i,hi⟩:=aU hpos
   rw [m6 _ X Y hd hi]
   exact xF ih hx hy _ _ _ h w
  ·cases h
end Go.Abs
