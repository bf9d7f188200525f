
/- Comparisons of values: what the abstract one says of the model's own.
   Conditions: none; generic over the program. -/
import Derived.Test.YtaogbalpingjhaaGreatDoorAbsD
set_option linter.unusedSimpArgs false
set_option linter.unusedVariables false
namespace Go.Abs
variable {P:Program}
def li (P:Program) (t:TypeId) (X:Array Value):Value:=if bw P t then .agg X else X.getD 0 undef
theorem tg {t:TypeId} {d:TypeDesc} (a:P.underlying t=some d) {X:Array Value} {off:Nat} (h:bw P t=false->off<X.size/\0<P.cellsOf t) (w:World):
  (part t X off).run P w=.ok (li P t (X.extract off (off+P.cellsOf t))) w:=by
 obtain ⟨i,hi⟩:=lc a;unfold li;cases b:bw P t with
 | true=>simp [part,iW a,b,eV hi]
 | false=>
  obtain ⟨c,f⟩:=h b;simp only [part,aq,iW a,b,ax,bE,aC];have:X[off]?=some X[off]:=by simp [c]
  rw [this];have e:(X.extract off (off+P.cellsOf t))[0]?=some X[off]:=by
   rw [Array.getElem?_extract,ae (by omega)];simp [c]
  simp [oL,e]
theorem VRs.extract {ι:Inj} {l:List V} {X:Array Value} (h:VRs ι l X.toList) (o n:Nat):VRs ι ((l.drop o).take n) (X.extract o (o+n)).toList:=by
 have:=(h.drop o).take n;have e:(X.extract o (o+n)).toList=(X.toList.drop o).take n:=by
  simp [Array.toList_extract,List.extract]
 rw [e];exact this
def EqOK (P:Program) (ι:Inj) (a:TypeId->List V->List V->Option Bool) (d:Nat):Prop:=
 ∀t c e b (X Y:Array Value),a t c e=some b->VRs ι c X.toList->VRs ι e Y.toList->
  (∃f,P.underlying t=some f)/\(bw P t=false->0<c.length/\0<e.length)/\∀w,(Op.equalIn d t (li P t X) (li P t Y)).run P w=.ok b w
theorem HH {ι:Inj} {rec:TypeId->List V->List V->Option Bool} {d:Nat} (hr:EqOK P ι rec d) {xs ys:List V} {X Y:Array Value} (hx:VRs ι xs X.toList) (hy:VRs ι ys Y.toList):
  ∀(fs:List Field) (b:Bool),eqFs rec P.cellsOf xs ys fs=some b->∀w,(Op.eqFields d X Y fs).run P w=.ok b w
 | [],b,h,w=>by simp only [eqFs,ah] at h;subst h;simp [Op.eqFields]
 | f::fs,b,h,w=>by
  simp only [eqFs] at h;split at h
  ·cases h
  ·rename_i hn;split at h
   ·rename_i b1 h1;split at h
    ·rename_i b2 h2;simp only [ah] at h;subst h;have hn':f.name≠ "_":=by simpa using hn
     obtain ⟨⟨td,htd⟩,hpos,hrun⟩:=hr _ _ _ _ _ _ h1 (hx.extract f.offset (P.cellsOf f.type)) (hy.extract f.offset (P.cellsOf f.type));have hxl:=hx.length;have hyl:=hy.length;simp only [Du] at hxl hyl;have hp1:bw P f.type=false->f.offset<X.size/\0<P.cellsOf f.type:=by
      intro ha;obtain ⟨g,_⟩:=hpos ha;simp only [eT,cZ] at g;omega
     have hp2:bw P f.type=false->f.offset<Y.size/\0<P.cellsOf f.type:=by
      intro ha;obtain ⟨_,g⟩:=hpos ha;simp only [eT,cZ] at g;omega
     simp only [Op.eqFields,hn',ne_eq,BY,aI,aq,tg htd hp1,tg htd hp2,ax,hrun];cases b1
     ·simp
     ·simpa using HH hr hx hy fs b2 h2 w
    ·cases h
   ·cases h
def qp (d:Nat) (e:TypeId) (n:Nat) (X Y:Array Value):List Nat->Sem Bool
 | []=>pure true
 | i::l=>do
  let a <-part e X (i*n);let b <-part e Y (i*n);let r <-Op.equalIn d e a b
  if (!r)=true then pure false else qp d e n X Y l
theorem rO (d:Nat) {t e:TypeId} {len:Nat} {i:TypeInfo} (X Y:Array Value) (h:P.underlying t=some (.array len e)) (hi:P.info? e=some i) (w:World):
  (Op.equalIn (d+1) t (.agg X) (.agg Y)).run P w=(qp d e (P.cellsOf e) X Y (List.range' 0 len)).run P w:=by
 simp only [Op.equalIn,aq,aN h,ax,eV hi];rw [Std.Legacy.Range.forIn_eq_forIn_range'];simp only [Std.Legacy.Range.size,pP,Cj,y6];generalize List.range' 0 len=l
 induction l generalizing w with
 | nil=>simp [qp]
 | cons j l ih=>
  simp only [List.forIn_cons,qp,aq,Sem.run_ite];generalize (part e X (j*P.cellsOf e)).run P w=k;cases k with
  | ok a g=>
   simp only [ax];generalize (part e Y (j*P.cellsOf e)).run P g=m;cases m with
   | ok b f=>
    simp only [ax];generalize (Op.equalIn d e a b).run P f=n;cases n with
    | ok r c=>
     cases r
     ·simp only [ax,jb,aI,aB]
     ·simp only [ax,dc,bE,aC,aB];exact ih c
    | halt x c=>simp [Result.andThen]
   | halt x f=>simp [Result.andThen]
  | halt x g=>simp [Result.andThen]
theorem Jm {ι:Inj} {i:TypeId->List V->List V->Option Bool} {d:Nat} (s:EqOK P ι i d) {e:TypeId} {r q:List V} {X Y:Array Value} (hx:VRs ι r X.toList) (hy:VRs ι q Y.toList):
  ∀(n j:Nat) (b:Bool),eqAr (i e) (P.cellsOf e) r q n j=some b->∀w,(qp d e (P.cellsOf e) X Y (List.range' j n)).run P w=.ok b w
 | 0,j,b,h,w=>by simp only [eqAr,ah] at h;subst h;simp [qp]
 | n+1,j,b,h,w=>by
  simp only [eqAr] at h;split at h
  ·rename_i b1 t;split at h
   ·rename_i b2 u;simp only [ah] at h;subst h;obtain ⟨⟨v,c⟩,a,f⟩:=s _ _ _ _ _ _ t (hx.extract (j*P.cellsOf e) (P.cellsOf e)) (hy.extract (j*P.cellsOf e) (P.cellsOf e));have o:=hx.length;have m:=hy.length;simp only [Du] at o m;have p:bw P e=false->j*P.cellsOf e<X.size/\0<P.cellsOf e:=by
     intro l;obtain ⟨g,_⟩:=a l;simp only [eT,cZ] at g;omega
    have k:bw P e=false->j*P.cellsOf e<Y.size/\0<P.cellsOf e:=by
     intro l;obtain ⟨_,g⟩:=a l;simp only [eT,cZ] at g;omega
    simp only [BS,qp,aq,tg c p,tg c k,ax,f];cases b1
    ·simp
    ·simpa using Jm s hx hy n (j+1) b2 u w
   ·cases h
  ·cases h
theorem uL (l:aa):(ByteArray.mk l.toArray).toList=l:=by
 rw [ByteArray.toList_eq]
theorem D8 {ι:Inj}:∀(n d:Nat),EqOK P ι (eqC P n) (n+d)
 | 0,d=>λt x v b X Y h=>by simp [eqC] at h
 | n+1,d=>by
  intro t x v b X Y h hx hy;have ih:=D8 (ι:=ι) n d;rw [show n+1+d=(n+d)+1 by omega];unfold eqC at h;split at h
  ·rename_i k c;split at h
   ·rename_i k1 a k2 g;split at h
    ·rename_i q;simp only [ah] at h;subst h;have q:=jd q;subst q;simp only [VRs,VR] at hx hy;obtain ⟨_,_,o,rfl,rfl⟩:=hx;obtain ⟨_,_,j,rfl,rfl⟩:=hy;refine ⟨⟨_,c⟩,λ_=>by simp,λw=>?_⟩;have f:li P t X=.int k1 a:=by simp [li,bw,c,oL,<-nT,o]
     have m:li P t Y=.int k1 g:=by simp [li,bw,c,oL,<-nT,j]
     rw [f,m];exact run_equalIn_int w _ t k1 k a g c
    ·cases h
   ·cases h
  ·rename_i c;split at h
   ·rename_i a g;simp only [ah] at h;subst h;simp only [VRs,VR] at hx hy;obtain ⟨_,_,o,rfl,rfl⟩:=hx;obtain ⟨_,_,j,rfl,rfl⟩:=hy;refine ⟨⟨_,c⟩,λ_=>by simp,λw=>?_⟩;have f:li P t X=.bool a:=by simp [li,bw,c,oL,<-nT,o]
    have m:li P t Y=.bool g:=by simp [li,bw,c,oL,<-nT,j]
    rw [f,m];exact run_equalIn_bool' w _ t a g c
   ·cases h
  ·rename_i c;split at h
   ·rename_i a g;simp only [ah] at h;subst h;simp only [VRs,VR] at hx hy;obtain ⟨_,_,o,rfl,rfl⟩:=hx;obtain ⟨_,_,j,rfl,rfl⟩:=hy;refine ⟨⟨_,c⟩,λ_=>by simp,λw=>?_⟩;have f:li P t X=.string ⟨a.toArray⟩:=by simp [li,bw,c,oL,<-nT,o]
    have m:li P t Y=.string ⟨g.toArray⟩:=by simp [li,bw,c,oL,<-nT,j]
    rw [f,m,run_equalIn_string w _ t _ _ c,uL,uL]
   ·cases h
  ·rename_i u c;split at h
   ·cases h
   ·rename_i r;have s:P.fieldsOf t=u:=by simp [Program.fieldsOf,c]
    have f:∀X,li P t X=.agg X:=λX=>by simp [li,bw,c]
    refine ⟨⟨_,c⟩,λp=>by simp [bw,c] at p,λw=>?_⟩;rw [f,f,run_equalIn_struct w _ t X Y (by rw [s];exact c) r,s];exact HH ih hx hy _ _ h w
  ·rename_i len e c;split at h
   case h_2=>cases h
   rename_i l;have f:∀X,li P t X=.agg X:=λX=>by simp [li,bw,c]
   refine ⟨⟨_,c⟩,λp=>by simp [bw,c] at p,λw=>?_⟩;rw [f,f];obtain ⟨i,hi⟩:=bz l;rw [rO _ X Y c hi];exact Jm ih hx hy _ _ _ h w
  ·cases h
end Go.Abs
