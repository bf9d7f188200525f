
import Derived.Test.YtadejcglcffgbaaGreatDoorAbsP
set_option linter.unusedSimpArgs false
set_option linter.unusedVariables false
set_option linter.defProp false
namespace Go.Abs
variable {P:Program}
def altE(x:Ent)(t:List V->List (Nat×Blk)->Bool)(y:Ent):Ent:=
 ⟨x.f,λα args H fr k=>cond (t args H) (x.e α args H fr k) (y.e α args H fr k)⟩
def TO{x y:Ent}{t:List V->List (Nat×Blk)->Bool}(hx:fC P x)(hy:fC P y)(b:y.f=x.f):fC P (altE x t y):=by
 intro α args H fr k z h;simp only[altE]at h;cases a:t args H with
 | true=>rw[a]at h;exact hx α args H fr k z h
 | false=>
  rw[a]at h;have:=hy α args H fr k z h;rw[b]at this;exact this
def altS(x:Sub)(t:St->Bool)(y:Sub):Sub:=⟨x.m,λα s k=>cond (t s) (x.e α s k) (y.e α s k)⟩
def TV{α:Type}{n:Nat}{c:Code}{x y:Sub}{t:St->Bool}{s:St}{k:Ex->St->Option α}{z:α}
  (hx:x.e α s k=some z->SemC P n c s λex s'=>k ex s'=some z) (hy:y.e α s k=some z->SemC P n c s λex s'=>k ex s'=some z)
  (h:(altS x t y).e α s k=some z):SemC P n c s λex s'=>k ex s'=some z:=by
 simp only[altS]at h;cases a:t s with
 | true=>rw[a]at h;exact hx h
 | false=>rw[a]at h;exact hy h
def isS{α:Type}:Option α->Bool
 | some _=>true
 | none=>false
end Go.Abs
