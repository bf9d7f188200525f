
/- Opening a law's arguments: a struct of a number, a slice of rows, two numbers and a number.
   Conditions: none; generic over the program. -/
import Derived.Test.YthemneooekobkaaGreatDoorAbsZ
set_option linter.unusedSimpArgs false
set_option linter.unusedVariables false
namespace Go.Abs
open Go.RowKit Go.ChangeShapes Go.WideShapes
section
variable {H:Type} {enc:TypeId×Value->H} {P:Program} {w:World} {held:Bool}
theorem PQ {t e:TypeId} {q u p s:Field} {k0 k2 k3 k4:IntKind} {tr:List Lf} {d:Nat} {v:Value} {r:Reach} {b0:Nat} {X:DataW H} {ps:List MemPlace} (C:P.underlying t=some (.struct #[q,u,p,s]))
  (h0:P.underlying q.type=some (.int k0)) (O:P.underlying u.type=some (.slice e)) (h2:tX P d p.type=some [.i k2,.i k3]) (Q:BD P d p.type=true) (U:P.underlying s.type=some (.int k4))
  (I:(q.offset,u.offset,p.offset,s.offset)=(0,1,2,4)) (B:(P.cellsOf t,P.cellsOf q.type,P.cellsOf u.type,P.cellsOf p.type,P.cellsOf s.type)=(5,1,1,2,1))
  (Y:tX P d e=some tr) (L:BD P d e=true) (hc:P.cellsOf e=tr.length) (hp:0<tr.length)
  (f:Value.okWide P w r b0 t v) (T:DataW.Trod enc P w 0 (λ_=>true) held t v X ps):
  ∃(a:Int) (x:Value) (l:List (den tr)) (ρ:Option Rf) (b c g:Int),v=.agg #[.int k0 a,x,.int k2 b,.int k3 c,.int k4 g]/\(Lit.int k0 a).wf=true/\(Lit.int k2 b).wf=true/\(Lit.int k3 c).wf=true/\(Lit.int k4 g).wf=true/\
   (∀y∈l,tg tr y)/\l.length<=maxLen/\zj w x tr l ρ:=by
 simp only [bG] at I B;obtain ⟨K,o1,Z,o3⟩:=I;obtain ⟨M,z0,z1,z2,z3⟩:=B;simp only [Value.okWide,C] at f;obtain ⟨D,rfl,o,_⟩:=f;rw [M] at o;obtain ⟨m,j,n,k,c4,rfl⟩:∃m j n k c4,D=#[m,j,n,k,c4]:=by
  obtain ⟨l⟩:=D
  match l,o with
  | [m,j,n,k,c4],_=>exact ⟨m,j,n,k,c4,rfl⟩
 obtain ⟨fuel,h⟩:=T;cases fuel with
 | zero=>simp [DataW.trod] at h
 | succ fuel=>
  unfold DataW.trod at h;rw [C] at h;simp only at h;split at h
  case isFalse=>cases h
  simp only [FW] at h;obtain ⟨xs,A,_⟩:=h;simp only [yx,List.mapM_nil,Option.bind_eq_bind,AQ] at A;obtain ⟨y0,z,_,⟨y1,E,_,⟨y2,F,_,⟨y3,G,_⟩,_⟩,_⟩,_⟩:=A;rw [K,z0] at z;rw [o1,z1] at E;rw [Z,z2] at F;rw [o3,z3] at G;obtain ⟨a,R,_,w0⟩:=Hi h0 z;obtain ⟨b,S,J⟩:=wA d fuel h2 Q F;obtain ⟨g,W,_,V⟩:=Hi U G;obtain ⟨l,ρ,m1,m2,N⟩:=yR (v:=j) O Y L hc hp E;obtain rfl:m=.int k0 a:=by simpa [Value.cells] using R
  obtain ⟨rfl,rfl⟩:n=.int k2 b.1/\k=.int k3 b.2:=by simpa [Value.cells,vals,Lf.val] using S
  obtain rfl:c4=.int k4 g:=by simpa [Value.cells] using W
  exact ⟨a,j,l,ρ,b.1,b.2,g,rfl,w0,J.1,J.2,V,m1,m2,N⟩
end
end Go.Abs
