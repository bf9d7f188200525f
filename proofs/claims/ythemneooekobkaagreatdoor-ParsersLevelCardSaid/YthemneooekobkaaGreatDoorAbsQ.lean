
/- Several contracts of one function, several shapes of one loop.
   Conditions: none; generic over the program. -/
import Derived.Test.YthemneooekobkaaGreatDoorAbsP
set_option linter.unusedSimpArgs false
set_option linter.unusedVariables false
namespace Go.Abs
variable {P:Program}
def altS (x:Sub) (t:St->Bool) (y:Sub):Sub:=⟨x.m,λα s k=>cond (t s) (x.e α s k) (y.e α s k)⟩
theorem OP {α:Type} {n:Nat} {c:Code} {x y:Sub} {t:St->Bool} {s:St} {k:Ex->St->Option α} {z:α}
  (b:x.e α s k=some z->SemC P n c s λex s'=>k ex s'=some z) (d:y.e α s k=some z->SemC P n c s λex s'=>k ex s'=some z)
  (h:(altS x t y).e α s k=some z):SemC P n c s λex s'=>k ex s'=some z:=by
 simp only [altS] at h;cases a:t s with
 | true=>rw [a] at h;exact b h
 | false=>rw [a] at h;exact d h
def isS {α:Type}:Option α->Bool
 | some _=>true
 | none=>false
end Go.Abs
