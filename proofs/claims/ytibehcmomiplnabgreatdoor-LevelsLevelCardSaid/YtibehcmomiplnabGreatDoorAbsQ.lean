
import Derived.Test.YtibehcmomiplnabGreatDoorAbsP
set_option linter.unusedSimpArgs false
set_option linter.unusedVariables false
set_option linter.defProp false
namespace Go.Abs
variable {P:Program}
def altS(x:Sub)(t:St->Bool)(y:Sub):Sub:=⟨x.m,λα s k=>cond (t s) (x.e α s k) (y.e α s k)⟩
def X2{α:Type}{n:Nat}{c:Code}{x y:Sub}{t:St->Bool}{s:St}{k:Ex->St->Option α}{z:α}
  (hx:x.e α s k=some z->SemC P n c s λex s'=>k ex s'=some z) (hy:y.e α s k=some z->SemC P n c s λex s'=>k ex s'=some z)
  (h:(altS x t y).e α s k=some z):SemC P n c s λex s'=>k ex s'=some z:=by
 simp only[altS]at h;cases a:t s with
 | true=>rw[a]at h;exact hx h
 | false=>rw[a]at h;exact hy h
def isS{α:Type}:Option α->Bool
 | some _=>true
 | none=>false
end Go.Abs
