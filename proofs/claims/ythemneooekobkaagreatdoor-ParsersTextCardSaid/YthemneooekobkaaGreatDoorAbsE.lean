
/- Comparisons of values: what the abstract one says of the model's own.
   Conditions: none; generic over the program. -/
import Derived.Test.YthemneooekobkaaGreatDoorAbsD
set_option linter.unusedSimpArgs false
set_option linter.unusedVariables false
namespace Go.Abs
variable {P:Program}
def m8 (P:Program) (t:TypeId) (X:Array Value):Value:=if ca P t then .agg X else X.getD 0 undef
theorem wi {t:TypeId} {d:TypeDesc} (a:P.underlying t=some d) {X:Array Value} {off:Nat} (h:ca P t=false->off<X.size/\0<P.cellsOf t) (w:World):
  (part t X off).run P w=.ok (m8 P t (X.extract off (off+P.cellsOf t))) w:=by
 obtain ⟨i,hi⟩:=mZ a;unfold m8;cases b:ca P t with
 | true=>simp [part,kH a,b,gj hi]
 | false=>
  obtain ⟨c,f⟩:=h b;simp only [part,az,kH a,b,aB,bs,aG];have:X[off]?=some X[off]:=by simp [c]
  rw [this];have e:(X.extract off (off+P.cellsOf t))[0]?=some X[off]:=by
   rw [Array.getElem?_extract,ae (by omega)];simp [c]
  simp [rt,e]
theorem VRs.extract {ι:Inj} {l:List V} {X:Array Value} (h:VRs ι l X.toList) (o n:Nat):VRs ι ((l.drop o).take n) (X.extract o (o+n)).toList:=by
 have:=(h.drop o).take n;have e:(X.extract o (o+n)).toList=(X.toList.drop o).take n:=by
  simp [Array.toList_extract,List.extract]
 rw [e];exact this
def EqOK (P:Program) (ι:Inj) (a:TypeId->List V->List V->Option Bool) (d:Nat):Prop:=
 ∀t e c b (X Y:Array Value),a t e c=some b->VRs ι e X.toList->VRs ι c Y.toList->
  (∃f,P.underlying t=some f)/\(ca P t=false->0<e.length/\0<c.length)/\∀w,(Op.equalIn d t (m8 P t X) (m8 P t Y)).run P w=.ok b w
theorem Kw {ι:Inj} {rec:TypeId->List V->List V->Option Bool} {d:Nat} (hr:EqOK P ι rec d) {xs ys:List V} {X Y:Array Value} (hx:VRs ι xs X.toList) (hy:VRs ι ys Y.toList):
  ∀(fs:List Field) (b:Bool),eqFs rec P.cellsOf xs ys fs=some b->∀w,(Op.eqFields d X Y fs).run P w=.ok b w
 | [],b,h,w=>by simp only [eqFs,aw] at h;subst h;simp [Op.eqFields]
 | f::fs,b,h,w=>by
  simp only [eqFs] at h;split at h
  ·cases h
  ·rename_i hn;split at h
   ·rename_i b1 h1;split at h
    ·rename_i b2 h2;simp only [aw] at h;subst h;have hn':f.name≠ "_":=by simpa using hn
     obtain ⟨⟨td,htd⟩,hpos,hrun⟩:=hr _ _ _ _ _ _ h1 (hx.extract f.offset (P.cellsOf f.type)) (hy.extract f.offset (P.cellsOf f.type));have hxl:=hx.length;have hyl:=hy.length;simp only [L2] at hxl hyl;have hp1:ca P f.type=false->f.offset<X.size/\0<P.cellsOf f.type:=by
      intro ha;obtain ⟨g,_⟩:=hpos ha;simp only [cP,bN] at g;omega
     have hp2:ca P f.type=false->f.offset<Y.size/\0<P.cellsOf f.type:=by
      intro ha;obtain ⟨_,g⟩:=hpos ha;simp only [cP,bN] at g;omega
     simp only [Op.eqFields,hn',ne_eq,Gt,aM,az,wi htd hp1,wi htd hp2,aB,hrun];cases b1
     ·simp
     ·simpa using Kw hr hx hy fs b2 h2 w
    ·cases h
   ·cases h
def tu (d:Nat) (e:TypeId) (n:Nat) (X Y:Array Value):List Nat->Sem Bool
 | []=>pure true
 | i::l=>do
  let a <-part e X (i*n);let b <-part e Y (i*n);let r <-Op.equalIn d e a b
  if (!r)=true then pure false else tu d e n X Y l
theorem uU (d:Nat) {t e:TypeId} {len:Nat} {i:TypeInfo} (X Y:Array Value) (h:P.underlying t=some (.array len e)) (hi:P.info? e=some i) (w:World):
  (Op.equalIn (d+1) t (.agg X) (.agg Y)).run P w=(tu d e (P.cellsOf e) X Y (List.range' 0 len)).run P w:=by
 simp only [Op.equalIn,az,be h,aB,gj hi];rw [Std.Legacy.Range.forIn_eq_forIn_range'];simp only [Std.Legacy.Range.size,rN,GO,tU];generalize List.range' 0 len=l
 induction l generalizing w with
 | nil=>simp [tu]
 | cons j l ih=>
  simp only [List.forIn_cons,tu,az,Sem.run_ite];generalize (part e X (j*P.cellsOf e)).run P w=m;cases m with
  | ok a c=>
   simp only [aB];generalize (part e Y (j*P.cellsOf e)).run P c=n;cases n with
   | ok b g=>
    simp only [aB];generalize (Op.equalIn d e a b).run P g=k;cases k with
    | ok r f=>
     cases r
     ·simp only [aB,jA,aM,aF]
     ·simp only [aB,dn,bs,aG,aF];exact ih f
    | halt x f=>simp [Result.andThen]
   | halt x g=>simp [Result.andThen]
  | halt x c=>simp [Result.andThen]
theorem Nq {ι:Inj} {f:TypeId->List V->List V->Option Bool} {d:Nat} (q:EqOK P ι f d) {e:TypeId} {r s:List V} {X Y:Array Value} (hx:VRs ι r X.toList) (hy:VRs ι s Y.toList):
  ∀(n j:Nat) (b:Bool),eqAr (f e) (P.cellsOf e) r s n j=some b->∀w,(tu d e (P.cellsOf e) X Y (List.range' j n)).run P w=.ok b w
 | 0,j,b,h,w=>by simp only [eqAr,aw] at h;subst h;simp [tu]
 | n+1,j,b,h,w=>by
  simp only [eqAr] at h;split at h
  ·rename_i b1 u;split at h
   ·rename_i b2 t;simp only [aw] at h;subst h;obtain ⟨⟨v,i⟩,a,c⟩:=q _ _ _ _ _ _ u (hx.extract (j*P.cellsOf e) (P.cellsOf e)) (hy.extract (j*P.cellsOf e) (P.cellsOf e));have k:=hx.length;have o:=hy.length;simp only [L2] at k o;have p:ca P e=false->j*P.cellsOf e<X.size/\0<P.cellsOf e:=by
     intro m;obtain ⟨g,_⟩:=a m;simp only [cP,bN] at g;omega
    have l:ca P e=false->j*P.cellsOf e<Y.size/\0<P.cellsOf e:=by
     intro m;obtain ⟨_,g⟩:=a m;simp only [cP,bN] at g;omega
    simp only [wO,tu,az,wi i p,wi i l,aB,c];cases b1
    ·simp
    ·simpa using Nq q hx hy n (j+1) b2 t w
   ·cases h
  ·cases h
theorem yM (l:aa):(ByteArray.mk l.toArray).toList=l:=by
 rw [ByteArray.toList_eq]
theorem IZ {ι:Inj}:∀(n d:Nat),EqOK P ι (eqC P n) (n+d)
 | 0,d=>λt v x b X Y h=>by simp [eqC] at h
 | n+1,d=>by
  intro t v x b X Y h hx hy;have ih:=IZ (ι:=ι) n d;rw [show n+1+d=(n+d)+1 by omega];unfold eqC at h;split at h
  ·rename_i k c;split at h
   ·rename_i k1 a k2 g;split at h
    ·rename_i r;simp only [aw] at h;subst h;have r:=lc r;subst r;simp only [VRs,VR] at hx hy;obtain ⟨_,_,m,rfl,rfl⟩:=hx;obtain ⟨_,_,j,rfl,rfl⟩:=hy;refine ⟨⟨_,c⟩,λ_=>by simp,λw=>?_⟩;have f:m8 P t X=.int k1 a:=by simp [m8,ca,c,rt,<-qM,m]
     have o:m8 P t Y=.int k1 g:=by simp [m8,ca,c,rt,<-qM,j]
     rw [f,o];exact run_equalIn_int w _ t k1 k a g c
    ·cases h
   ·cases h
  ·rename_i c;split at h
   ·rename_i a g;simp only [aw] at h;subst h;simp only [VRs,VR] at hx hy;obtain ⟨_,_,m,rfl,rfl⟩:=hx;obtain ⟨_,_,j,rfl,rfl⟩:=hy;refine ⟨⟨_,c⟩,λ_=>by simp,λw=>?_⟩;have f:m8 P t X=.bool a:=by simp [m8,ca,c,rt,<-qM,m]
    have o:m8 P t Y=.bool g:=by simp [m8,ca,c,rt,<-qM,j]
    rw [f,o];exact run_equalIn_bool' w _ t a g c
   ·cases h
  ·rename_i c;split at h
   ·rename_i a g;simp only [aw] at h;subst h;simp only [VRs,VR] at hx hy;obtain ⟨_,_,m,rfl,rfl⟩:=hx;obtain ⟨_,_,j,rfl,rfl⟩:=hy;refine ⟨⟨_,c⟩,λ_=>by simp,λw=>?_⟩;have f:m8 P t X=.string ⟨a.toArray⟩:=by simp [m8,ca,c,rt,<-qM,m]
    have o:m8 P t Y=.string ⟨g.toArray⟩:=by simp [m8,ca,c,rt,<-qM,j]
    rw [f,o,run_equalIn_string w _ t _ _ c,yM,yM]
   ·cases h
  ·rename_i u c;split at h
   ·cases h
   ·rename_i q;have s:P.fieldsOf t=u:=by simp [Program.fieldsOf,c]
    have f:∀X,m8 P t X=.agg X:=λX=>by simp [m8,ca,c]
    refine ⟨⟨_,c⟩,λp=>by simp [ca,c] at p,λw=>?_⟩;rw [f,f,run_equalIn_struct w _ t X Y (by rw [s];exact c) q,s];exact Kw ih hx hy _ _ h w
  ·rename_i len e c;split at h
   case h_2=>cases h
   rename_i l;have f:∀X,m8 P t X=.agg X:=λX=>by simp [m8,ca,c]
   refine ⟨⟨_,c⟩,λp=>by simp [ca,c] at p,λw=>?_⟩;rw [f,f];obtain ⟨i,hi⟩:=ci l;rw [uU _ X Y c hi];exact Nq ih hx hy _ _ _ h w
  ·cases h
end Go.Abs
