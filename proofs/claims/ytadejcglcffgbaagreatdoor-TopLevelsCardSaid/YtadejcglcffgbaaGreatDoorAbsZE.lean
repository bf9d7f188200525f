
import Derived.Test.YtadejcglcffgbaaGreatDoorAbsZ
set_option linter.unusedSimpArgs false
set_option linter.unusedVariables false
set_option linter.defProp false
namespace Go.Abs
open Go.RowKit Go.ChangeShapes Go.WideShapes
section
variable {H:Type} {enc:TypeId×Value->H} {P:Program} {w:World} {held:Bool}
def QV{t e:TypeId}{p q o s:Field}{k0 k2 k3 k4:IntKind}{tr:List Lf}{d:Nat}{v:Value}{r:Reach}{b0:Nat}{dd:DataW H}{ps:List MemPlace}(A:P.underlying t=some (.struct #[p,q,o,s]))
  (L:P.underlying p.type=some (.int k0)) (W:P.underlying q.type=some (.slice e)) (S:uy P d o.type=some [.i k2,.i k3]) (V:C4 P d o.type=true) (h3:P.underlying s.type=some (.int k4))
  (I:(p.offset,q.offset,o.offset,s.offset)=(0,1,2,4)) (u:(P.cellsOf t,P.cellsOf p.type,P.cellsOf q.type,P.cellsOf o.type,P.cellsOf s.type)=(5,1,1,2,1))
  (Z:uy P d e=some tr) (he:C4 P d e=true) (hc:P.cellsOf e=tr.length) (hp:0<tr.length)
  (h:Value.okWide P w r b0 t v) (K:DataW.Trod enc P w 0 (λ_=>true) held t v dd ps):
  ∃(a:Int) (x:Value) (l:List (den tr)) (ρ:Option Rf) (b c g:Int),v=.agg #[.int k0 a,x,.int k2 b,.int k3 c,.int k4 g]/\(Lit.int k0 a).wf=true/\(Lit.int k2 b).wf=true/\(Lit.int k3 c).wf=true/\(Lit.int k4 g).wf=true/\
   (∀y∈l,tY tr y)/\l.length<=maxLen/\zg w x tr l ρ:=by
 simp only[bC]at I u;obtain⟨Q,o1,X,J⟩:=I;obtain⟨U,z0,z1,z2,N⟩:=u;simp only[Value.okWide,A]at h;obtain⟨D,rfl,k,_⟩:=h;rw[U]at k;obtain⟨n,j,m,c3,c4,rfl⟩:∃n j m c3 c4,D=#[n,j,m,c3,c4]:=by
  obtain⟨l⟩:=D
  match l,k with
  | [n,j,m,c3,c4],_=>exact⟨n,j,m,c3,c4,rfl⟩
 obtain⟨fuel,f⟩:=K;cases fuel with
 | zero=>simp[DataW.trod]at f
 | succ fuel=>
  unfold DataW.trod at f;rw[A]at f;simp only at f;split at f
  case isFalse=>cases f
  simp only[FK]at f;obtain⟨xs,G,_⟩:=f;simp only[xK,List.mapM_nil,Option.bind_eq_bind,Ba]at G;obtain⟨y0,z,_,⟨y1,F,_,⟨y2,E,_,⟨y3,B,_⟩,_⟩,_⟩,_⟩:=G;rw[Q,z0]at z;rw[o1,z1]at F;rw[X,z2]at E;rw[J,N]at B;obtain⟨a,R,_,w0⟩:=HN L z;obtain⟨b,M,C⟩:=wn d fuel S V E;obtain⟨g,O,_,T⟩:=HN h3 B;obtain⟨l,ρ,m1,m2,Y⟩:=xT (v:=j) W Z he hc hp F;obtain rfl:n=.int k0 a:=by simpa[Value.cells]using R
  obtain⟨rfl,rfl⟩:m=.int k2 b.1/\c3=.int k3 b.2:=by simpa[Value.cells,vals,Lf.val]using M
  obtain rfl:c4=.int k4 g:=by simpa[Value.cells]using O
  exact⟨a,j,l,ρ,b.1,b.2,g,rfl,w0,C.1,C.2,T,m1,m2,Y⟩
end
end Go.Abs
