
/- Comparisons of values: what the abstract one says of the model's own.
   Conditions: none; generic over the program. -/
import Derived.Test.YtjkmipianfkncaaGreatDoorAbsD
set_option linter.unusedSimpArgs false
set_option linter.unusedVariables false
set_option linter.defProp false
namespace Go.Abs
variable {P:Program}
def mT(P:Program)(t:TypeId)(X:Array Value):Value:=if bU P t then .agg X else X.getD 0 undef
def vH{t:TypeId}{d:TypeDesc}(hd:P.underlying t=some d){X:Array Value}{off:Nat}(h:bU P t=false->off<X.size/\0<P.cellsOf t)(w:World):
  (part t X off).run P w=.ok (mT P t (X.extract off (off+P.cellsOf t))) w:=by
 obtain⟨i,hi⟩:=m8 hd;unfold mT;cases a:bU P t with
 | true=>simp[part,kl hd,a,f9 hi]
 | false=>
  obtain⟨b,c⟩:=h a;simp only[part,aw,kl hd,a,ay,bj,az];have:X[off]?=some X[off]:=by simp[b]
  rw[this];have e:(X.extract off (off+P.cellsOf t))[0]?=some X[off]:=by
   rw[Array.getElem?_extract,ae (by omega)];simp[b]
  simp[qf,e]
def VRs.extract{ι:Inj}{l:List V}{X:Array Value}(h:VRs ι l X.toList)(o n:Nat):VRs ι ((l.drop o).take n) (X.extract o (o+n)).toList:=by
 have:=(h.drop o).take n;have e:(X.extract o (o+n)).toList=(X.toList.drop o).take n:=by
  simp[Array.toList_extract,List.extract]
 rw[e];exact this
def EqOK(P:Program)(ι:Inj)(c:TypeId->List V->List V->Option Bool)(d:Nat):Prop:=
 ∀t a ys b (X Y:Array Value),c t a ys=some b->VRs ι a X.toList->VRs ι ys Y.toList->
  (∃e,P.underlying t=some e)/\(bU P t=false->0<a.length/\0<ys.length)/\∀w,(Op.equalIn d t (mT P t X) (mT P t Y)).run P w=.ok b w
def Nk {ι:Inj} {rec:TypeId->List V->List V->Option Bool} {d:Nat} (hr:EqOK P ι rec d) {xs ys:List V} {X Y:Array Value} (hx:VRs ι xs X.toList) (hy:VRs ι ys Y.toList):
  ∀(fs:List Field) (b:Bool),eqFs rec P.cellsOf xs ys fs=some b->∀w,(Op.eqFields d X Y fs).run P w=.ok b w
 | [],b,h,w=>by simp only [eqFs,ar] at h;subst h;simp [Op.eqFields]
 | f::fs,b,h,w=>by
  simp only [eqFs] at h;split at h
  ·cases h
  ·rename_i hn;split at h
   ·rename_i b1 h1;split at h
    ·rename_i b2 h2;simp only [ar] at h;subst h;have hn':f.name≠ "_":=by simpa using hn
     obtain ⟨⟨td,htd⟩,hpos,hrun⟩:=hr _ _ _ _ _ _ h1 (hx.extract f.offset (P.cellsOf f.type)) (hy.extract f.offset (P.cellsOf f.type));have hxl:=hx.length;have hyl:=hy.length;simp only [Jz] at hxl hyl;have hp1:bU P f.type=false->f.offset<X.size/\0<P.cellsOf f.type:=by
      intro ha;obtain ⟨g,_⟩:=hpos ha;simp only [dq,ba] at g;omega
     have hp2:bU P f.type=false->f.offset<Y.size/\0<P.cellsOf f.type:=by
      intro ha;obtain ⟨_,g⟩:=hpos ha;simp only [dq,ba] at g;omega
     simp only [Op.eqFields,hn',ne_eq,E3,aG,aw,vH htd hp1,vH htd hp2,ay,hrun];cases b1
     ·simp
     ·simpa using Nk hr hx hy fs b2 h2 w
    ·cases h
   ·cases h
def sR(d:Nat)(e:TypeId)(n:Nat)(X Y:Array Value):List Nat->Sem Bool
 | []=>pure true
 | i::l=>do
  let a <-part e X (i*n);let b <-part e Y (i*n);let r <-Op.equalIn d e a b
  if(!r)=true then pure false else sR d e n X Y l
def uY(d:Nat){t e:TypeId}{len:Nat}{i:TypeInfo}(X Y:Array Value)(k:P.underlying t=some (.array len e))(hi:P.info? e=some i)(w:World):
  (Op.equalIn (d+1) t (.agg X) (.agg Y)).run P w=(sR d e (P.cellsOf e) X Y (List.range' 0 len)).run P w:=by
 simp only[Op.equalIn,aw,aU k,ay,f9 hi];rw[Std.Legacy.Range.forIn_eq_forIn_range'];simp only[Std.Legacy.Range.size,pL,FC,sE];generalize List.range' 0 len=l
 induction l generalizing w with
 | nil=>simp[sR]
 | cons j l ih=>
  simp only[List.forIn_cons,sR,aw,Sem.run_ite];generalize(part e X (j*P.cellsOf e)).run P w=h;cases h with
  | ok a g=>
   simp only[ay];generalize(part e Y (j*P.cellsOf e)).run P g=n;cases n with
   | ok b c=>
    simp only[ay];generalize(Op.equalIn d e a b).run P c=m;cases m with
    | ok r f=>
     cases r
     ·simp only[ay,ia,aG,aB]
     ·simp only[ay,ca,bj,az,aB];exact ih f
    | halt x f=>simp[Result.andThen]
   | halt x c=>simp[Result.andThen]
  | halt x g=>simp[Result.andThen]
def Nv{ι:Inj}{i:TypeId->List V->List V->Option Bool}{d:Nat}(r:EqOK P ι i d){e:TypeId}{q ys:List V}{X Y:Array Value}(hx:VRs ι q X.toList)(hy:VRs ι ys Y.toList):
  ∀(n j:Nat) (b:Bool),eqAr (i e) (P.cellsOf e) q ys n j=some b->∀w,(sR d e (P.cellsOf e) X Y (List.range' j n)).run P w=.ok b w
 | 0,j,b,h,w=>by simp only[eqAr,ar]at h;subst h;simp[sR]
 | n+1,j,b,h,w=>by
  simp only[eqAr]at h;split at h
  ·rename_i b1 s;split at h
   ·rename_i b2 t;simp only[ar]at h;subst h;obtain⟨⟨u,c⟩,a,f⟩:=r _ _ _ _ _ _ s (hx.extract (j*P.cellsOf e) (P.cellsOf e)) (hy.extract (j*P.cellsOf e) (P.cellsOf e));have o:=hx.length;have k:=hy.length;simp only[Jz]at o k;have p:bU P e=false->j*P.cellsOf e<X.size/\0<P.cellsOf e:=by
     intro m;obtain⟨g,_⟩:=a m;simp only[dq,ba]at g;omega
    have l:bU P e=false->j*P.cellsOf e<Y.size/\0<P.cellsOf e:=by
     intro m;obtain⟨_,g⟩:=a m;simp only[dq,ba]at g;omega
    simp only[wy,sR,aw,vH c p,vH c l,ay,f];cases b1
    ·simp
    ·simpa using Nv r hx hy n (j+1) b2 t w
   ·cases h
  ·cases h
def yf(l:aa):(ByteArray.mk l.toArray).toList=l:=by
 rw[ByteArray.toList_eq]
def Gk{ι:Inj}:∀(n d:Nat),EqOK P ι (eqC P n) (n+d)
 | 0,d=>λt u ys b X Y h=>by simp[eqC]at h
 | n+1,d=>by
  intro t u ys b X Y h hx hy;have ih:=Gk (ι:=ι) n d;rw[show n+1+d=(n+d)+1 by omega];unfold eqC at h;split at h
  ·rename_i k hd;split at h
   ·rename_i k1 a k2 f;split at h
    ·rename_i o;simp only[ar]at h;subst h;have o:=k9 o;subst o;simp only[VRs,VR]at hx hy;obtain⟨_,_,g,rfl,rfl⟩:=hx;obtain⟨_,_,j,rfl,rfl⟩:=hy;refine⟨⟨_,hd⟩,λ_=>by simp,λw=>?_⟩;have c:mT P t X=.int k1 a:=by simp[mT,bU,hd,qf,<-qs,g]
     have m:mT P t Y=.int k1 f:=by simp[mT,bU,hd,qf,<-qs,j]
     rw[c,m];exact run_equalIn_int w _ t k1 k a f hd
    ·cases h
   ·cases h
  ·rename_i hd;split at h
   ·rename_i a f;simp only[ar]at h;subst h;simp only[VRs,VR]at hx hy;obtain⟨_,_,g,rfl,rfl⟩:=hx;obtain⟨_,_,j,rfl,rfl⟩:=hy;refine⟨⟨_,hd⟩,λ_=>by simp,λw=>?_⟩;have c:mT P t X=.bool a:=by simp[mT,bU,hd,qf,<-qs,g]
    have m:mT P t Y=.bool f:=by simp[mT,bU,hd,qf,<-qs,j]
    rw[c,m];exact run_equalIn_bool' w _ t a f hd
   ·cases h
  ·rename_i hd;split at h
   ·rename_i a f;simp only[ar]at h;subst h;simp only[VRs,VR]at hx hy;obtain⟨_,_,g,rfl,rfl⟩:=hx;obtain⟨_,_,j,rfl,rfl⟩:=hy;refine⟨⟨_,hd⟩,λ_=>by simp,λw=>?_⟩;have c:mT P t X=.string ⟨a.toArray⟩:=by simp[mT,bU,hd,qf,<-qs,g]
    have m:mT P t Y=.string ⟨f.toArray⟩:=by simp[mT,bU,hd,qf,<-qs,j]
    rw[c,m,run_equalIn_string w _ t _ _ hd,yf,yf]
   ·cases h
  ·rename_i s hd;split at h
   ·cases h
   ·rename_i p;have r:P.fieldsOf t=s:=by simp[Program.fieldsOf,hd]
    have c:∀X,mT P t X=.agg X:=λX=>by simp[mT,bU,hd]
    refine⟨⟨_,hd⟩,λq=>by simp[bU,hd]at q,λw=>?_⟩;rw[c,c,run_equalIn_struct w _ t X Y (by rw[r];exact hd) p,r];exact Nk ih hx hy _ _ h w
  ·rename_i len e hd;split at h
   case h_2=>cases h
   rename_i l;have c:∀X,mT P t X=.agg X:=λX=>by simp[mT,bU,hd]
   refine⟨⟨_,hd⟩,λq=>by simp[bU,hd]at q,λw=>?_⟩;rw[c,c];obtain⟨i,hi⟩:=bX l;rw[uY _ X Y hd hi];exact Nv ih hx hy _ _ _ h w
  ·cases h
end Go.Abs
