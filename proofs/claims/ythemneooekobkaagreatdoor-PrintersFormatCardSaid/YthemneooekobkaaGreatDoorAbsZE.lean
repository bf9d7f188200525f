
/- Opening a law's arguments: a struct of a number, a slice of rows, two numbers and a number.
   Conditions: none; generic over the program. -/
import Derived.Test.YthemneooekobkaaGreatDoorAbsZ
set_option linter.unusedSimpArgs false
set_option linter.unusedVariables false
namespace Go.Abs
open Go.RowKit Go.ChangeShapes Go.WideShapes
section
variable {H:Type} {enc:TypeId×Value->H} {P:Program} {w:World} {held:Bool}
theorem RD {t e:TypeId} {z s k u:Field} {k0 k2 k3 k4:IntKind} {tr:List Lf} {d:Nat} {v:Value} {r:Reach} {b0:Nat} {R:DataW H} {ps:List MemPlace} (B:P.underlying t=some (.struct #[z,s,k,u]))
  (h0:P.underlying z.type=some (.int k0)) (L:P.underlying s.type=some (.slice e)) (N:uI P d k.type=some [.i k2,.i k3]) (g2:Bc P d k.type=true) (h3:P.underlying u.type=some (.int k4))
  (K:(z.offset,s.offset,k.offset,u.offset)=(0,1,2,4)) (C:(P.cellsOf t,P.cellsOf z.type,P.cellsOf s.type,P.cellsOf k.type,P.cellsOf u.type)=(5,1,1,2,1))
  (hr:uI P d e=some tr) (Y:Bc P d e=true) (hc:P.cellsOf e=tr.length) (hp:0<tr.length)
  (h:Value.okWide P w r b0 t v) (O:DataW.Trod enc P w 0 (λ_=>true) held t v R ps):
  ∃(a:Int) (x:Value) (l:List (den tr)) (ρ:Option Rf) (b c g:Int),v=.agg #[.int k0 a,x,.int k2 b,.int k3 c,.int k4 g]/\(Lit.int k0 a).wf=true/\(Lit.int k2 b).wf=true/\(Lit.int k3 c).wf=true/\(Lit.int k4 g).wf=true/\
   (∀y∈l,ug tr y)/\l.length<=maxLen/\zH w x tr l ρ:=by
 simp only [bM] at K C;obtain ⟨X,o1,T,W⟩:=K;obtain ⟨zt,S,z1,z2,Q⟩:=C;simp only [Value.okWide,B] at h;obtain ⟨I,rfl,o,_⟩:=h;rw [zt] at o;obtain ⟨n,j,q,m,p,rfl⟩:∃n j q m p,I=#[n,j,q,m,p]:=by
  obtain ⟨l⟩:=I
  match l,o with
  | [n,j,q,m,p],_=>exact ⟨n,j,q,m,p,rfl⟩
 obtain ⟨fuel,f⟩:=O;cases fuel with
 | zero=>simp [DataW.trod] at f
 | succ fuel=>
  unfold DataW.trod at f;rw [B] at f;simp only at f;split at f
  case isFalse=>cases f
  simp only [F8] at f;obtain ⟨xs,A,_⟩:=f;simp only [zb,List.mapM_nil,Option.bind_eq_bind,C5] at A;obtain ⟨y0,E,_,⟨y1,J,_,⟨y2,G,_,⟨y3,D,_⟩,_⟩,_⟩,_⟩:=A;rw [X,S] at E;rw [o1,z1] at J;rw [T,z2] at G;rw [W,Q] at D;obtain ⟨a,U,_,w0⟩:=IT h0 E;obtain ⟨b,V,F⟩:=wG d fuel N g2 G;obtain ⟨g,Z,_,M⟩:=IT h3 D;obtain ⟨l,ρ,m1,m2,m3⟩:=zo (v:=j) L hr Y hc hp J;obtain rfl:n=.int k0 a:=by simpa [Value.cells] using U
  obtain ⟨rfl,rfl⟩:q=.int k2 b.1/\m=.int k3 b.2:=by simpa [Value.cells,vals,Lf.val] using V
  obtain rfl:p=.int k4 g:=by simpa [Value.cells] using Z
  exact ⟨a,j,l,ρ,b.1,b.2,g,rfl,w0,F.1,F.2,M,m1,m2,m3⟩
end
end Go.Abs
