
import Derived.Test.YtibehcmomiplnabGreatDoorAbsZ
set_option linter.unusedSimpArgs false
set_option linter.unusedVariables false
set_option linter.defProp false
namespace Go.Abs
open Go.RowKit Go.ChangeShapes Go.WideShapes
section
variable {H:Type} {enc:TypeId×Value->H} {P:Program} {w:World} {held:Bool}
def Sj{t e:TypeId}{p s m q:Field}{k0 k2 k3 k4:IntKind}{tr:List Lf}{d:Nat}{v:Value}{r:Reach}{b0:Nat}{S:DataW H}{ps:List MemPlace}(D:P.underlying t=some (.struct #[p,s,m,q]))
  (U:P.underlying p.type=some (.int k0)) (Y:P.underlying s.type=some (.slice e)) (Q:wZ P d m.type=some [.i k2,.i k3]) (N:Eu P d m.type=true) (K:P.underlying q.type=some (.int k4))
  (C:(p.offset,s.offset,m.offset,q.offset)=(0,1,2,4)) (F:(P.cellsOf t,P.cellsOf p.type,P.cellsOf s.type,P.cellsOf m.type,P.cellsOf q.type)=(5,1,1,2,1))
  (O:wZ P d e=some tr) (Z:Eu P d e=true) (hc:P.cellsOf e=tr.length) (hp:0<tr.length)
  (h:Value.okWide P w r b0 t v) (hd:DataW.Trod enc P w 0 (λ_=>true) held t v S ps):
  ∃(a:Int) (x:Value) (l:List (den tr)) (ρ:Option Rf) (b c g:Int),v=.agg #[.int k0 a,x,.int k2 b,.int k3 c,.int k4 g]/\(Lit.int k0 a).wf=true/\(Lit.int k2 b).wf=true/\(Lit.int k3 c).wf=true/\(Lit.int k4 g).wf=true/\
   (∀y∈l,vP tr y)/\l.length<=maxLen/\BD w x tr l ρ:=by
 simp only[bP]at C F;obtain⟨o0,o1,R,M⟩:=C;obtain⟨zt,z0,z1,z2,L⟩:=F;simp only[Value.okWide,D]at h;obtain⟨B,rfl,k,_⟩:=h;rw[zt]at k;obtain⟨o,j,n,c3,c4,rfl⟩:∃o j n c3 c4,B=#[o,j,n,c3,c4]:=by
  obtain⟨l⟩:=B
  match l,k with
  | [o,j,n,c3,c4],_=>exact⟨o,j,n,c3,c4,rfl⟩
 obtain⟨fuel,f⟩:=hd;cases fuel with
 | zero=>simp[DataW.trod]at f
 | succ fuel=>
  unfold DataW.trod at f;rw[D]at f;simp only at f;split at f
  case isFalse=>cases f
  simp only[IC]at f;obtain⟨xs,u,_⟩:=f;simp only[AN,List.mapM_nil,Option.bind_eq_bind,Fa]at u;obtain⟨y0,G,_,⟨y1,I,_,⟨y2,A,_,⟨y3,z,_⟩,_⟩,_⟩,_⟩:=u;rw[o0,z0]at G;rw[o1,z1]at I;rw[R,z2]at A;rw[M,L]at z;obtain⟨a,X,_,w0⟩:=KP U G;obtain⟨b,T,E⟩:=yZ d fuel Q N A;obtain⟨g,V,_,J⟩:=KP K z;obtain⟨l,ρ,m1,m2,W⟩:=zK (v:=j) Y O Z hc hp I;obtain rfl:o=.int k0 a:=by simpa[Value.cells]using X
  obtain⟨rfl,rfl⟩:n=.int k2 b.1/\c3=.int k3 b.2:=by simpa[Value.cells,vals,Lf.val]using T
  obtain rfl:c4=.int k4 g:=by simpa[Value.cells]using V
  exact⟨a,j,l,ρ,b.1,b.2,g,rfl,w0,E.1,E.2,J,m1,m2,W⟩
end
end Go.Abs
