
import Derived.Test.YtadejcglcffgbabGreatDoorAbsZ
set_option linter.unusedSimpArgs false
set_option linter.unusedVariables false
set_option linter.defProp false
namespace Go.Abs
open Go.RowKit Go.ChangeShapes Go.WideShapes
section
variable {H:Type} {enc:TypeId×Value->H} {P:Program} {w:World} {held:Bool}
def Hz{t e:TypeId}{p u k q:Field}{k0 k2 k3 s:IntKind}{tr:List Lf}{d:Nat}{v:Value}{r:Reach}{L:Nat}{S:DataW H}{V:List MemPlace}(E:P.underlying t=some (.struct #[p,u,k,q]))
  (h0:P.underlying p.type=some (.int k0)) (h1:P.underlying u.type=some (.slice e)) (T:pf P d k.type=some [.i k2,.i k3]) (R:wM P d k.type=true) (h3:P.underlying q.type=some (.int s))
  (D:(p.offset,u.offset,k.offset,q.offset)=(0,1,2,4)) (A:(P.cellsOf t,P.cellsOf p.type,P.cellsOf u.type,P.cellsOf k.type,P.cellsOf q.type)=(5,1,1,2,1))
  (U:pf P d e=some tr) (he:wM P d e=true) (hc:P.cellsOf e=tr.length) (hp:0<tr.length)
  (f:Value.okWide P w r L t v) (K:DataW.Trod enc P w 0 (λ_=>true) held t v S V):
  ∃(a:Int) (x:Value) (l:List (den tr)) (ρ:Option Rf) (b c g:Int),v=.agg #[.int k0 a,x,.int k2 b,.int k3 c,.int s g]/\(Lit.int k0 a).wf=true/\(Lit.int k2 b).wf=true/\(Lit.int k3 c).wf=true/\(Lit.int s g).wf=true/\
   (∀y∈l,ov tr y)/\l.length<=maxLen/\ut w x tr l ρ:=by
 simp only[cJ]at D A;obtain⟨o0,Y,Q,Z⟩:=D;obtain⟨N,M,z1,z2,X⟩:=A;simp only[Value.okWide,E]at f;obtain⟨J,rfl,o,_⟩:=f;rw[N]at o;obtain⟨m,j,n,c3,c4,rfl⟩:∃m j n c3 c4,J=#[m,j,n,c3,c4]:=by
  obtain⟨l⟩:=J
  match l,o with
  | [m,j,n,c3,c4],_=>exact⟨m,j,n,c3,c4,rfl⟩
 obtain⟨fuel,h⟩:=K;cases fuel with
 | zero=>simp[DataW.trod]at h
 | succ fuel=>
  unfold DataW.trod at h;rw[E]at h;simp only at h;split at h
  case isFalse=>cases h
  simp only[Ab]at h;obtain⟨xs,G,_⟩:=h;simp only[sV,List.mapM_nil,Option.bind_eq_bind,vD]at G;obtain⟨y0,I,_,⟨y1,C,_,⟨y2,z,_,⟨y3,F,_⟩,_⟩,_⟩,_⟩:=G;rw[o0,M]at I;rw[Y,z1]at C;rw[Q,z2]at z;rw[Z,X]at F;obtain⟨a,q0,_,w0⟩:=BJ h0 I;obtain⟨b,q2,B⟩:=rq d fuel T R z;obtain⟨g,O,_,w3⟩:=BJ h3 F;obtain⟨l,ρ,m1,m2,W⟩:=sW (v:=j) h1 U he hc hp C;obtain rfl:m=.int k0 a:=by simpa[Value.cells]using q0
  obtain⟨rfl,rfl⟩:n=.int k2 b.1/\c3=.int k3 b.2:=by simpa[Value.cells,vals,Lf.val]using q2
  obtain rfl:c4=.int s g:=by simpa[Value.cells]using O
  exact⟨a,j,l,ρ,b.1,b.2,g,rfl,w0,B.1,B.2,w3,m1,m2,W⟩
end
end Go.Abs
