
/- Opening a law's arguments: a struct of a number, a slice of rows, two numbers and a number.
   Conditions: none; generic over the program. -/
import Derived.Test.YthemneooekobkaaGreatDoorAbsZ
set_option linter.unusedSimpArgs false
set_option linter.unusedVariables false
namespace Go.Abs
open Go.RowKit Go.ChangeShapes Go.WideShapes
section
variable {H:Type} {enc:TypeId×Value->H} {P:Program} {w:World} {held:Bool}
theorem KW {t e:TypeId} {s A k z:Field} {k0 k2 k3 u:IntKind} {tr:List Lf} {d:Nat} {v:Value} {r:Reach} {O:Nat} {T:DataW H} {ps:List MemPlace} (B:P.underlying t=some (.struct #[s,A,k,z]))
  (h0:P.underlying s.type=some (.int k0)) (h1:P.underlying A.type=some (.slice e)) (h2:ri P d k.type=some [.i k2,.i k3]) (g2:yU P d k.type=true) (V:P.underlying z.type=some (.int u))
  (G:(s.offset,A.offset,k.offset,z.offset)=(0,1,2,4)) (E:(P.cellsOf t,P.cellsOf s.type,P.cellsOf A.type,P.cellsOf k.type,P.cellsOf z.type)=(5,1,1,2,1))
  (hr:ri P d e=some tr) (R:yU P d e=true) (hc:P.cellsOf e=tr.length) (hp:0<tr.length)
  (h:Value.okWide P w r O t v) (N:DataW.Trod enc P w 0 (λ_=>true) held t v T ps):
  ∃(a:Int) (x:Value) (l:List (den tr)) (ρ:Option Rf) (b c g:Int),v=.agg #[.int k0 a,x,.int k2 b,.int k3 c,.int u g]/\(Lit.int k0 a).wf=true/\(Lit.int k2 b).wf=true/\(Lit.int k3 c).wf=true/\(Lit.int u g).wf=true/\
   (∀y∈l,qw tr y)/\l.length<=maxLen/\wy w x tr l ρ:=by
 simp only [cZ] at G E;obtain ⟨W,o1,o2,o3⟩:=G;obtain ⟨S,Z,z1,z2,Y⟩:=E;simp only [Value.okWide,B] at h;obtain ⟨I,rfl,m,_⟩:=h;rw [S] at m;obtain ⟨n,j,p,o,q,rfl⟩:∃n j p o q,I=#[n,j,p,o,q]:=by
  obtain ⟨l⟩:=I
  match l,m with
  | [n,j,p,o,q],_=>exact ⟨n,j,p,o,q,rfl⟩
 obtain ⟨fuel,f⟩:=N;cases fuel with
 | zero=>simp [DataW.trod] at f
 | succ fuel=>
  unfold DataW.trod at f;rw [B] at f;simp only at f;split at f
  case isFalse=>cases f
  simp only [BM] at f;obtain ⟨xs,F,_⟩:=f;simp only [uC,List.mapM_nil,Option.bind_eq_bind,yO] at F;obtain ⟨y0,C,_,⟨y1,L,_,⟨y2,D,_,⟨y3,K,_⟩,_⟩,_⟩,_⟩:=F;rw [W,Z] at C;rw [o1,z1] at L;rw [o2,z2] at D;rw [o3,Y] at K;obtain ⟨a,X,_,w0⟩:=Ee h0 C;obtain ⟨b,U,J⟩:=ub d fuel h2 g2 D;obtain ⟨g,M,_,Q⟩:=Ee V K;obtain ⟨l,ρ,m1,m2,m3⟩:=uM (v:=j) h1 hr R hc hp L;obtain rfl:n=.int k0 a:=by simpa [Value.cells] using X
  obtain ⟨rfl,rfl⟩:p=.int k2 b.1/\o=.int k3 b.2:=by simpa [Value.cells,vals,Lf.val] using U
  obtain rfl:q=.int u g:=by simpa [Value.cells] using M
  exact ⟨a,j,l,ρ,b.1,b.2,g,rfl,w0,J.1,J.2,Q,m1,m2,m3⟩
end
end Go.Abs
