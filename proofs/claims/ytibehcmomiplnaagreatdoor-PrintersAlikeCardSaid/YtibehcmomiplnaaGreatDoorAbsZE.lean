
import Derived.Test.YtibehcmomiplnaaGreatDoorAbsZ
set_option linter.unusedSimpArgs false
set_option linter.unusedVariables false
set_option linter.defProp false
namespace Go.Abs
open Go.RowKit Go.ChangeShapes Go.WideShapes
section
variable {H:Type} {enc:TypeId×Value->H} {P:Program} {w:World} {held:Bool}
def IS{t e:TypeId}{s q o p:Field}{k0 k2 k3 k4:IntKind}{tr:List Lf}{d:Nat}{v:Value}{r:Reach}{b0:Nat}{N:DataW H}{J:List MemPlace}(E:P.underlying t=some (.struct #[s,q,o,p]))
  (U:P.underlying s.type=some (.int k0)) (M:P.underlying q.type=some (.slice e)) (X:uL P d o.type=some [.i k2,.i k3]) (g2:CE P d o.type=true) (h3:P.underlying p.type=some (.int k4))
  (z:(s.offset,q.offset,o.offset,p.offset)=(0,1,2,4)) (D:(P.cellsOf t,P.cellsOf s.type,P.cellsOf q.type,P.cellsOf o.type,P.cellsOf p.type)=(5,1,1,2,1))
  (T:uL P d e=some tr) (L:CE P d e=true) (hc:P.cellsOf e=tr.length) (hp:0<tr.length)
  (f:Value.okWide P w r b0 t v) (R:DataW.Trod enc P w 0 (λ_=>true) held t v N J):
  ∃(a:Int) (x:Value) (l:List (den tr)) (ρ:Option Rf) (b c g:Int),v=.agg #[.int k0 a,x,.int k2 b,.int k3 c,.int k4 g]/\(Lit.int k0 a).wf=true/\(Lit.int k2 b).wf=true/\(Lit.int k3 c).wf=true/\(Lit.int k4 g).wf=true/\
   (∀y∈l,sW tr y)/\l.length<=maxLen/\wt w x tr l ρ:=by
 simp only[bm]at z D;obtain⟨O,o1,o2,Y⟩:=z;obtain⟨W,z0,z1,z2,Z⟩:=D;simp only[Value.okWide,E]at f;obtain⟨C,rfl,k,_⟩:=f;rw[W]at k;obtain⟨n,j,m,c3,c4,rfl⟩:∃n j m c3 c4,C=#[n,j,m,c3,c4]:=by
  obtain⟨l⟩:=C
  match l,k with
  | [n,j,m,c3,c4],_=>exact⟨n,j,m,c3,c4,rfl⟩
 obtain⟨fuel,h⟩:=R;cases fuel with
 | zero=>simp[DataW.trod]at h
 | succ fuel=>
  unfold DataW.trod at h;rw[E]at h;simp only at h;split at h
  case isFalse=>cases h
  simp only[Gi]at h;obtain⟨xs,A,_⟩:=h;simp only[zk,List.mapM_nil,Option.bind_eq_bind,C6]at A;obtain⟨y0,u,_,⟨y1,B,_,⟨y2,F,_,⟨y3,G,_⟩,_⟩,_⟩,_⟩:=A;rw[O,z0]at u;rw[o1,z1]at B;rw[o2,z2]at F;rw[Y,Z]at G;obtain⟨a,Q,_,w0⟩:=IB U u;obtain⟨b,q2,I⟩:=wF d fuel X g2 F;obtain⟨g,V,_,K⟩:=IB h3 G;obtain⟨l,ρ,m1,m2,S⟩:=zf (v:=j) M T L hc hp B;obtain rfl:n=.int k0 a:=by simpa[Value.cells]using Q
  obtain⟨rfl,rfl⟩:m=.int k2 b.1/\c3=.int k3 b.2:=by simpa[Value.cells,vals,Lf.val]using q2
  obtain rfl:c4=.int k4 g:=by simpa[Value.cells]using V
  exact⟨a,j,l,ρ,b.1,b.2,g,rfl,w0,I.1,I.2,K,m1,m2,S⟩
end
end Go.Abs
