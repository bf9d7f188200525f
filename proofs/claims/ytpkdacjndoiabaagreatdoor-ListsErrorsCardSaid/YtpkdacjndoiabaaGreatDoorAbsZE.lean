/- Opening a law's arguments: a struct of a number, a slice of rows, two numbers and a number.
   Conditions: none; generic over the program. -/
import Derived.Test.YtpkdacjndoiabaaGreatDoorAbsZ
set_option linter.unusedSimpArgs false
set_option linter.unusedVariables false
namespace Go.Abs
open Go.RowKit Go.ChangeShapes Go.WideShapes
section
variable {H:Type} {enc:TypeId×Value->H} {P:Program} {w:World} {held:Bool}
theorem JI {t e:TypeId} {f0 f1 f2 f3:Field} {k0 k2 k3 k4:IntKind} {tr:List Lf} {d:Nat} {v:Value} {r:Reach} {b0:Nat} {dd:DataW H} {ps:List MemPlace} (ht:P.underlying t=some (.struct #[f0,f1,f2,f3]))
  (h0:P.underlying f0.type=some (.int k0)) (h1:P.underlying f1.type=some (.slice e)) (h2:qs P d f2.type=some [.i k2,.i k3]) (g2:wu P d f2.type=true) (h3:P.underlying f3.type=some (.int k4))
  (ho:(f0.offset,f1.offset,f2.offset,f3.offset)=(0,1,2,4)) (hz:(P.cellsOf t,P.cellsOf f0.type,P.cellsOf f1.type,P.cellsOf f2.type,P.cellsOf f3.type)=(5,1,1,2,1))
  (hr:qs P d e=some tr) (he:wu P d e=true) (hc:P.cellsOf e=tr.length) (hp:0<tr.length)
  (hval:Value.okWide P w r b0 t v) (hd:DataW.Trod enc P w 0 (λ_=>true) held t v dd ps):
  ∃(a:Int) (x:Value) (l:List (den tr)) (ρ:Option Rf) (b c g:Int),v=.agg #[.int k0 a,x,.int k2 b,.int k3 c,.int k4 g]/\(Lit.int k0 a).wf=true/\(Lit.int k2 b).wf=true/\(Lit.int k3 c).wf=true/\(Lit.int k4 g).wf=true/\
   (∀y∈l,oP tr y)/\l.length<=maxLen/\wo w x tr l ρ:=by
 simp only [cR] at ho hz
 obtain ⟨o0,o1,o2,o3⟩:=ho
 obtain ⟨zt,z0,z1,z2,z3⟩:=hz
 simp only [Value.okWide,ht] at hval
 obtain ⟨cs,rfl,hsz,_⟩:=hval
 rw [zt] at hsz
 obtain ⟨c0,c1,c2,c3,c4,rfl⟩:∃c0 c1 c2 c3 c4,cs=#[c0,c1,c2,c3,c4]:=by
  obtain ⟨l⟩:=cs
  match l,hsz with
  | [c0,c1,c2,c3,c4],_=>exact ⟨c0,c1,c2,c3,c4,rfl⟩
 obtain ⟨fuel,hf⟩:=hd
 cases fuel with
 | zero=>simp [DataW.trod] at hf
 | succ fuel=>
  unfold DataW.trod at hf
  rw [ht] at hf
  simp only at hf
  split at hf
  case isFalse=>cases hf
  simp only [Bq] at hf
  obtain ⟨xs,h4,_⟩:=hf
  simp only [uE,List.mapM_nil,Option.bind_eq_bind,xI] at h4
  obtain ⟨y0,e0,_,⟨y1,e1,_,⟨y2,e2,_,⟨y3,e3,_⟩,_⟩,_⟩,_⟩:=h4
  rw [o0,z0] at e0;rw [o1,z1] at e1;rw [o2,z2] at e2;rw [o3,z3] at e3
  obtain ⟨a,q0,_,w0⟩:=Du h0 e0
  obtain ⟨b,q2,w2⟩:=rG d fuel h2 g2 e2
  obtain ⟨g,q3,_,w3⟩:=Du h3 e3
  obtain ⟨l,ρ,m1,m2,m3⟩:=uz (v:=c1) h1 hr he hc hp e1
  obtain rfl:c0=.int k0 a:=by simpa [Value.cells] using q0
  obtain ⟨rfl,rfl⟩:c2=.int k2 b.1/\c3=.int k3 b.2:=by simpa [Value.cells,vals,Lf.val] using q2
  obtain rfl:c4=.int k4 g:=by simpa [Value.cells] using q3
  exact ⟨a,c1,l,ρ,b.1,b.2,g,rfl,w0,w2.1,w2.2,w3,m1,m2,m3⟩
end
end Go.Abs
