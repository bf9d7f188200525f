
/- Comparisons of values: what the abstract one says of the model's own.
   Conditions: none; generic over the program. -/
import Derived.Test.YthemneooekobkaaGreatDoorAbsD
set_option linter.unusedSimpArgs false
set_option linter.unusedVariables false
namespace Go.Abs
variable {P:Program}
def lS (P:Program) (t:TypeId) (X:Array Value):Value:=if bG P t then .agg X else X.getD 0 undef
theorem tW {t:TypeId} {d:TypeDesc} (a:P.underlying t=some d) {X:Array Value} {off:Nat} (h:bG P t=false->off<X.size/\0<P.cellsOf t) (w:World):
  (part t X off).run P w=.ok (lS P t (X.extract off (off+P.cellsOf t))) w:=by
 obtain ⟨i,hi⟩:=lP a;unfold lS;cases b:bG P t with
 | true=>simp [part,jw a,b,eN hi]
 | false=>
  obtain ⟨c,f⟩:=h b;simp only [part,av,jw a,b,ax,cE,aG];have:X[off]?=some X[off]:=by simp [c]
  rw [this];have e:(X.extract off (off+P.cellsOf t))[0]?=some X[off]:=by
   rw [Array.getElem?_extract,ad (by omega)];simp [c]
  simp [oS,e]
theorem VRs.extract {ι:Inj} {l:List V} {X:Array Value} (h:VRs ι l X.toList) (o n:Nat):VRs ι ((l.drop o).take n) (X.extract o (o+n)).toList:=by
 have:=(h.drop o).take n;have e:(X.extract o (o+n)).toList=(X.toList.drop o).take n:=by
  simp [Array.toList_extract,List.extract]
 rw [e];exact this
def EqOK (P:Program) (ι:Inj) (e:TypeId->List V->List V->Option Bool) (d:Nat):Prop:=
 ∀t a c b (X Y:Array Value),e t a c=some b->VRs ι a X.toList->VRs ι c Y.toList->
  (∃f,P.underlying t=some f)/\(bG P t=false->0<a.length/\0<c.length)/\∀w,(Op.equalIn d t (lS P t X) (lS P t Y)).run P w=.ok b w
theorem Je {ι:Inj} {rec:TypeId->List V->List V->Option Bool} {d:Nat} (hr:EqOK P ι rec d) {xs ys:List V} {X Y:Array Value} (hx:VRs ι xs X.toList) (hy:VRs ι ys Y.toList):
  ∀(fs:List Field) (b:Bool),eqFs rec P.cellsOf xs ys fs=some b->∀w,(Op.eqFields d X Y fs).run P w=.ok b w
 | [],b,h,w=>by simp only [eqFs,am] at h;subst h;simp [Op.eqFields]
 | f::fs,b,h,w=>by
  simp only [eqFs] at h;split at h
  ·cases h
  ·rename_i hn;split at h
   ·rename_i b1 h1;split at h
    ·rename_i b2 h2;simp only [am] at h;subst h;have hn':f.name≠ "_":=by simpa using hn
     obtain ⟨⟨td,htd⟩,hpos,hrun⟩:=hr _ _ _ _ _ _ h1 (hx.extract f.offset (P.cellsOf f.type)) (hy.extract f.offset (P.cellsOf f.type));have hxl:=hx.length;have hyl:=hy.length;simp only [I6] at hxl hyl;have hp1:bG P f.type=false->f.offset<X.size/\0<P.cellsOf f.type:=by
      intro ha;obtain ⟨g,_⟩:=hpos ha;simp only [dx,nh] at g;omega
     have hp2:bG P f.type=false->f.offset<Y.size/\0<P.cellsOf f.type:=by
      intro ha;obtain ⟨_,g⟩:=hpos ha;simp only [dx,nh] at g;omega
     simp only [Op.eqFields,hn',ne_eq,CH,aY,av,tW htd hp1,tW htd hp2,ax,hrun];cases b1
     ·simp
     ·simpa using Je hr hx hy fs b2 h2 w
    ·cases h
   ·cases h
def qO (d:Nat) (e:TypeId) (n:Nat) (X Y:Array Value):List Nat->Sem Bool
 | []=>pure true
 | i::l=>do
  let a <-part e X (i*n);let b <-part e Y (i*n);let r <-Op.equalIn d e a b
  if (!r)=true then pure false else qO d e n X Y l
theorem sU (d:Nat) {t e:TypeId} {len:Nat} {i:TypeInfo} (X Y:Array Value) (h:P.underlying t=some (.array len e)) (hi:P.info? e=some i) (w:World):
  (Op.equalIn (d+1) t (.agg X) (.agg Y)).run P w=(qO d e (P.cellsOf e) X Y (List.range' 0 len)).run P w:=by
 simp only [Op.equalIn,av,aV h,ax,eN hi];rw [Std.Legacy.Range.forIn_eq_forIn_range'];simp only [Std.Legacy.Range.size,vQ,BP,qP];generalize List.range' 0 len=l
 induction l generalizing w with
 | nil=>simp [qO]
 | cons j l ih=>
  simp only [List.forIn_cons,qO,av,Sem.run_ite];generalize (part e X (j*P.cellsOf e)).run P w=k;cases k with
  | ok a g=>
   simp only [ax];generalize (part e Y (j*P.cellsOf e)).run P g=m;cases m with
   | ok b f=>
    simp only [ax];generalize (Op.equalIn d e a b).run P f=n;cases n with
    | ok r c=>
     cases r
     ·simp only [ax,ko,aY,az]
     ·simp only [ax,eG,cE,aG,az];exact ih c
    | halt x c=>simp [Result.andThen]
   | halt x f=>simp [Result.andThen]
  | halt x g=>simp [Result.andThen]
theorem If {ι:Inj} {f:TypeId->List V->List V->Option Bool} {d:Nat} (s:EqOK P ι f d) {e:TypeId} {q r:List V} {X Y:Array Value} (hx:VRs ι q X.toList) (hy:VRs ι r Y.toList):
  ∀(n j:Nat) (b:Bool),eqAr (f e) (P.cellsOf e) q r n j=some b->∀w,(qO d e (P.cellsOf e) X Y (List.range' j n)).run P w=.ok b w
 | 0,j,b,h,w=>by simp only [eqAr,am] at h;subst h;simp [qO]
 | n+1,j,b,h,w=>by
  simp only [eqAr] at h;split at h
  ·rename_i x u;split at h
   ·rename_i v t;simp only [am] at h;subst h;obtain ⟨⟨y,i⟩,a,c⟩:=s _ _ _ _ _ _ u (hx.extract (j*P.cellsOf e) (P.cellsOf e)) (hy.extract (j*P.cellsOf e) (P.cellsOf e));have o:=hx.length;have l:=hy.length;simp only [I6] at o l;have k:bG P e=false->j*P.cellsOf e<X.size/\0<P.cellsOf e:=by
     intro p;obtain ⟨g,_⟩:=a p;simp only [dx,nh] at g;omega
    have m:bG P e=false->j*P.cellsOf e<Y.size/\0<P.cellsOf e:=by
     intro p;obtain ⟨_,g⟩:=a p;simp only [dx,nh] at g;omega
    simp only [vI,qO,av,tW i k,tW i m,ax,c];cases x
    ·simp
    ·simpa using If s hx hy n (j+1) v t w
   ·cases h
  ·cases h
theorem vO (l:aa):(ByteArray.mk l.toArray).toList=l:=by
 rw [ByteArray.toList_eq]
theorem C3 {ι:Inj}:∀(n d:Nat),EqOK P ι (eqC P n) (n+d)
 | 0,d=>λt v x b X Y h=>by simp [eqC] at h
 | n+1,d=>by
  intro t v x b X Y h hx hy;have ih:=C3 (ι:=ι) n d;rw [show n+1+d=(n+d)+1 by omega];unfold eqC at h;split at h
  ·rename_i k c;split at h
   ·rename_i k1 a k2 g;split at h
    ·rename_i r;simp only [am] at h;subst h;have r:=jL r;subst r;simp only [VRs,VR] at hx hy;obtain ⟨_,_,o,rfl,rfl⟩:=hx;obtain ⟨_,_,m,rfl,rfl⟩:=hy;refine ⟨⟨_,c⟩,λ_=>by simp,λw=>?_⟩;have f:lS P t X=.int k1 a:=by simp [lS,bG,c,oS,<-nW,o]
     have j:lS P t Y=.int k1 g:=by simp [lS,bG,c,oS,<-nW,m]
     rw [f,j];exact run_equalIn_int w _ t k1 k a g c
    ·cases h
   ·cases h
  ·rename_i c;split at h
   ·rename_i a g;simp only [am] at h;subst h;simp only [VRs,VR] at hx hy;obtain ⟨_,_,o,rfl,rfl⟩:=hx;obtain ⟨_,_,m,rfl,rfl⟩:=hy;refine ⟨⟨_,c⟩,λ_=>by simp,λw=>?_⟩;have f:lS P t X=.bool a:=by simp [lS,bG,c,oS,<-nW,o]
    have j:lS P t Y=.bool g:=by simp [lS,bG,c,oS,<-nW,m]
    rw [f,j];exact run_equalIn_bool' w _ t a g c
   ·cases h
  ·rename_i c;split at h
   ·rename_i a g;simp only [am] at h;subst h;simp only [VRs,VR] at hx hy;obtain ⟨_,_,o,rfl,rfl⟩:=hx;obtain ⟨_,_,m,rfl,rfl⟩:=hy;refine ⟨⟨_,c⟩,λ_=>by simp,λw=>?_⟩;have f:lS P t X=.string ⟨a.toArray⟩:=by simp [lS,bG,c,oS,<-nW,o]
    have j:lS P t Y=.string ⟨g.toArray⟩:=by simp [lS,bG,c,oS,<-nW,m]
    rw [f,j,run_equalIn_string w _ t _ _ c,vO,vO]
   ·cases h
  ·rename_i u c;split at h
   ·cases h
   ·rename_i p;have s:P.fieldsOf t=u:=by simp [Program.fieldsOf,c]
    have f:∀X,lS P t X=.agg X:=λX=>by simp [lS,bG,c]
    refine ⟨⟨_,c⟩,λq=>by simp [bG,c] at q,λw=>?_⟩;rw [f,f,run_equalIn_struct w _ t X Y (by rw [s];exact c) p,s];exact Je ih hx hy _ _ h w
  ·rename_i len e c;split at h
   case h_2=>cases h
   rename_i l;have f:∀X,lS P t X=.agg X:=λX=>by simp [lS,bG,c]
   refine ⟨⟨_,c⟩,λq=>by simp [bG,c] at q,λw=>?_⟩;rw [f,f];obtain ⟨i,hi⟩:=bL l;rw [sU _ X Y c hi];exact If ih hx hy _ _ _ h w
  ·cases h
end Go.Abs
