
import Derived.Test.YtadejcglcffgbacGreatDoorAbsP
set_option linter.unusedSimpArgs false
set_option linter.unusedVariables false
set_option linter.defProp false
namespace Go.Abs
variable {P:Program}
def altE(x:Ent)(t:List V->List (Nat×Blk)->Bool)(y:Ent):Ent:=
 ⟨x.f,λα args H fr k=>cond (t args H) (x.e α args H fr k) (y.e α args H fr k)⟩
def KW{x y:Ent}{t:List V->List (Nat×Blk)->Bool}(d:cN P x)(c:cN P y)(b:y.f=x.f):cN P (altE x t y):=by
 intro α args H fr k z h;simp only[altE]at h;cases a:t args H with
 | true=>rw[a]at h;exact d α args H fr k z h
 | false=>
  rw[a]at h;have:=c α args H fr k z h;rw[b]at this;exact this
def altS(x:Sub)(t:St->Bool)(y:Sub):Sub:=⟨x.m,λα s k=>cond (t s) (x.e α s k) (y.e α s k)⟩
def KB{α:Type}{n:Nat}{c:Code}{x y:Sub}{t:St->Bool}{s:St}{k:Ex->St->Option α}{z:α}
  (f:x.e α s k=some z->SemC P n c s λex a=>k ex a=some z) (d:y.e α s k=some z->SemC P n c s λex a=>k ex a=some z)
  (h:(altS x t y).e α s k=some z):SemC P n c s λex a=>k ex a=some z:=by
 simp only[altS]at h;cases b:t s with
 | true=>rw[b]at h;exact f h
 | false=>rw[b]at h;exact d h
def isS{α:Type}:Option α->Bool
 | some _=>true
 | none=>false
end Go.Abs
