
/- Comparisons of values: what the abstract one says of the model's own.
   Conditions: none; generic over the program. -/
import Derived.Test.YtjkmipianfkncaaGreatDoorAbsD
set_option linter.unusedSimpArgs false
set_option linter.unusedVariables false
set_option linter.defProp false
namespace Go.Abs
variable {P:Program}
def mw(P:Program)(t:TypeId)(X:Array Value):Value:=if bM P t then .agg X else X.getD 0 undef
def uZ{t:TypeId}{d:TypeDesc}(hd:P.underlying t=some d){X:Array Value}{off:Nat}(h:bM P t=false->off<X.size/\0<P.cellsOf t)(w:World):
  (part t X off).run P w=.ok (mw P t (X.extract off (off+P.cellsOf t))) w:=by
 obtain⟨i,hi⟩:=mi hd;unfold mw;cases a:bM P t with
 | true=>simp[part,jY hd,a,fN hi]
 | false=>
  obtain⟨b,c⟩:=h a;simp only[part,aw,jY hd,a,ay,bs,aC];have:X[off]?=some X[off]:=by simp[b]
  rw[this];have e:(X.extract off (off+P.cellsOf t))[0]?=some X[off]:=by
   rw[Array.getElem?_extract,ae (by omega)];simp[b]
  simp[qg,e]
def VRs.extract{ι:Inj}{l:List V}{X:Array Value}(h:VRs ι l X.toList)(o n:Nat):VRs ι ((l.drop o).take n) (X.extract o (o+n)).toList:=by
 have:=(h.drop o).take n;have e:(X.extract o (o+n)).toList=(X.toList.drop o).take n:=by
  simp[Array.toList_extract,List.extract]
 rw[e];exact this
def EqOK(P:Program)(ι:Inj)(a:TypeId->List V->List V->Option Bool)(d:Nat):Prop:=
 ∀t c ys b (X Y:Array Value),a t c ys=some b->VRs ι c X.toList->VRs ι ys Y.toList->
  (∃e,P.underlying t=some e)/\(bM P t=false->0<c.length/\0<ys.length)/\∀w,(Op.equalIn d t (mw P t X) (mw P t Y)).run P w=.ok b w
def KU {ι:Inj} {rec:TypeId->List V->List V->Option Bool} {d:Nat} (hr:EqOK P ι rec d) {xs ys:List V} {X Y:Array Value} (hx:VRs ι xs X.toList) (hy:VRs ι ys Y.toList):
  ∀(fs:List Field) (b:Bool),eqFs rec P.cellsOf xs ys fs=some b->∀w,(Op.eqFields d X Y fs).run P w=.ok b w
 | [],b,h,w=>by simp only [eqFs,ar] at h;subst h;simp [Op.eqFields]
 | f::fs,b,h,w=>by
  simp only [eqFs] at h;split at h
  ·cases h
  ·rename_i hn;split at h
   ·rename_i b1 h1;split at h
    ·rename_i b2 h2;simp only [ar] at h;subst h;have hn':f.name≠ "_":=by simpa using hn
     obtain ⟨⟨td,htd⟩,hpos,hrun⟩:=hr _ _ _ _ _ _ h1 (hx.extract f.offset (P.cellsOf f.type)) (hy.extract f.offset (P.cellsOf f.type));have hxl:=hx.length;have hyl:=hy.length;simp only [K3] at hxl hyl;have hp1:bM P f.type=false->f.offset<X.size/\0<P.cellsOf f.type:=by
      intro ha;obtain ⟨g,_⟩:=hpos ha;simp only [de,bj] at g;omega
     have hp2:bM P f.type=false->f.offset<Y.size/\0<P.cellsOf f.type:=by
      intro ha;obtain ⟨_,g⟩:=hpos ha;simp only [de,bj] at g;omega
     simp only [Op.eqFields,hn',ne_eq,EK,aH,aw,uZ htd hp1,uZ htd hp2,ay,hrun];cases b1
     ·simp
     ·simpa using KU hr hx hy fs b2 h2 w
    ·cases h
   ·cases h
def rI(d:Nat)(e:TypeId)(n:Nat)(X Y:Array Value):List Nat->Sem Bool
 | []=>pure true
 | i::l=>do
  let a <-part e X (i*n);let b <-part e Y (i*n);let r <-Op.equalIn d e a b
  if(!r)=true then pure false else rI d e n X Y l
def tW(d:Nat){t e:TypeId}{len:Nat}{i:TypeInfo}(X Y:Array Value)(n:P.underlying t=some (.array len e))(hi:P.info? e=some i)(w:World):
  (Op.equalIn (d+1) t (.agg X) (.agg Y)).run P w=(rI d e (P.cellsOf e) X Y (List.range' 0 len)).run P w:=by
 simp only[Op.equalIn,aw,aT n,ay,fN hi];rw[Std.Legacy.Range.forIn_eq_forIn_range'];simp only[Std.Legacy.Range.size,rF,D7,rW];generalize List.range' 0 len=l
 induction l generalizing w with
 | nil=>simp[rI]
 | cons j l ih=>
  simp only[List.forIn_cons,rI,aw,Sem.run_ite];generalize(part e X (j*P.cellsOf e)).run P w=m;cases m with
  | ok a f=>
   simp only[ay];generalize(part e Y (j*P.cellsOf e)).run P f=k;cases k with
   | ok b c=>
    simp only[ay];generalize(Op.equalIn d e a b).run P c=h;cases h with
    | ok r g=>
     cases r
     ·simp only[ay,gJ,aH,aA]
     ·simp only[ay,bV,bs,aC,aA];exact ih g
    | halt x g=>simp[Result.andThen]
   | halt x c=>simp[Result.andThen]
  | halt x f=>simp[Result.andThen]
def Jw{ι:Inj}{c:TypeId->List V->List V->Option Bool}{d:Nat}(q:EqOK P ι c d){e:TypeId}{r ys:List V}{X Y:Array Value}(hx:VRs ι r X.toList)(hy:VRs ι ys Y.toList):
  ∀(n j:Nat) (b:Bool),eqAr (c e) (P.cellsOf e) r ys n j=some b->∀w,(rI d e (P.cellsOf e) X Y (List.range' j n)).run P w=.ok b w
 | 0,j,b,h,w=>by simp only[eqAr,ar]at h;subst h;simp[rI]
 | n+1,j,b,h,w=>by
  simp only[eqAr]at h;split at h
  ·rename_i b1 t;split at h
   ·rename_i b2 s;simp only[ar]at h;subst h;obtain⟨⟨u,i⟩,a,f⟩:=q _ _ _ _ _ _ t (hx.extract (j*P.cellsOf e) (P.cellsOf e)) (hy.extract (j*P.cellsOf e) (P.cellsOf e));have k:=hx.length;have l:=hy.length;simp only[K3]at k l;have o:bM P e=false->j*P.cellsOf e<X.size/\0<P.cellsOf e:=by
     intro p;obtain⟨g,_⟩:=a p;simp only[de,bj]at g;omega
    have m:bM P e=false->j*P.cellsOf e<Y.size/\0<P.cellsOf e:=by
     intro p;obtain⟨_,g⟩:=a p;simp only[de,bj]at g;omega
    simp only[wl,rI,aw,uZ i o,uZ i m,ay,f];cases b1
    ·simp
    ·simpa using Jw q hx hy n (j+1) b2 s w
   ·cases h
  ·cases h
def xk(l:aa):(ByteArray.mk l.toArray).toList=l:=by
 rw[ByteArray.toList_eq]
def GI{ι:Inj}:∀(n d:Nat),EqOK P ι (eqC P n) (n+d)
 | 0,d=>λt s ys b X Y h=>by simp[eqC]at h
 | n+1,d=>by
  intro t s ys b X Y h hx hy;have ih:=GI (ι:=ι) n d;rw[show n+1+d=(n+d)+1 by omega];unfold eqC at h;split at h
  ·rename_i k hd;split at h
   ·rename_i k1 a k2 f;split at h
    ·rename_i p;simp only[ar]at h;subst h;have p:=kn p;subst p;simp only[VRs,VR]at hx hy;obtain⟨_,_,l,rfl,rfl⟩:=hx;obtain⟨_,_,g,rfl,rfl⟩:=hy;refine⟨⟨_,hd⟩,λ_=>by simp,λw=>?_⟩;have c:mw P t X=.int k1 a:=by simp[mw,bM,hd,qg,<-qp,l]
     have j:mw P t Y=.int k1 f:=by simp[mw,bM,hd,qg,<-qp,g]
     rw[c,j];exact run_equalIn_int w _ t k1 k a f hd
    ·cases h
   ·cases h
  ·rename_i hd;split at h
   ·rename_i a f;simp only[ar]at h;subst h;simp only[VRs,VR]at hx hy;obtain⟨_,_,l,rfl,rfl⟩:=hx;obtain⟨_,_,g,rfl,rfl⟩:=hy;refine⟨⟨_,hd⟩,λ_=>by simp,λw=>?_⟩;have c:mw P t X=.bool a:=by simp[mw,bM,hd,qg,<-qp,l]
    have j:mw P t Y=.bool f:=by simp[mw,bM,hd,qg,<-qp,g]
    rw[c,j];exact run_equalIn_bool' w _ t a f hd
   ·cases h
  ·rename_i hd;split at h
   ·rename_i a f;simp only[ar]at h;subst h;simp only[VRs,VR]at hx hy;obtain⟨_,_,l,rfl,rfl⟩:=hx;obtain⟨_,_,g,rfl,rfl⟩:=hy;refine⟨⟨_,hd⟩,λ_=>by simp,λw=>?_⟩;have c:mw P t X=.string ⟨a.toArray⟩:=by simp[mw,bM,hd,qg,<-qp,l]
    have j:mw P t Y=.string ⟨f.toArray⟩:=by simp[mw,bM,hd,qg,<-qp,g]
    rw[c,j,run_equalIn_string w _ t _ _ hd,xk,xk]
   ·cases h
  ·rename_i u hd;split at h
   ·cases h
   ·rename_i o;have r:P.fieldsOf t=u:=by simp[Program.fieldsOf,hd]
    have c:∀X,mw P t X=.agg X:=λX=>by simp[mw,bM,hd]
    refine⟨⟨_,hd⟩,λq=>by simp[bM,hd]at q,λw=>?_⟩;rw[c,c,run_equalIn_struct w _ t X Y (by rw[r];exact hd) o,r];exact KU ih hx hy _ _ h w
  ·rename_i len e hd;split at h
   case h_2=>cases h
   rename_i m;have c:∀X,mw P t X=.agg X:=λX=>by simp[mw,bM,hd]
   refine⟨⟨_,hd⟩,λq=>by simp[bM,hd]at q,λw=>?_⟩;rw[c,c];obtain⟨i,hi⟩:=bQ m;rw[tW _ X Y hd hi];exact Jw ih hx hy _ _ _ h w
  ·cases h
end Go.Abs
