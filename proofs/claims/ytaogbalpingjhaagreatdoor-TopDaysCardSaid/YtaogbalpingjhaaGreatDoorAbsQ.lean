
/- Several contracts of one function, several shapes of one loop.
   Conditions: none; generic over the program. -/
import Derived.Test.YtaogbalpingjhaaGreatDoorAbsP
set_option linter.unusedSimpArgs false
set_option linter.unusedVariables false
namespace Go.Abs
variable {P:Program}
def altE (x:Ent) (t:List V->List (Nat×Blk)->Bool) (y:Ent):Ent:=
 ⟨x.f,λα args H fr k=>cond (t args H) (x.e α args H fr k) (y.e α args H fr k)⟩
theorem HN {x y:Ent} {t:List V->List (Nat×Blk)->Bool} (c:cD P x) (d:cD P y) (b:y.f=x.f):cD P (altE x t y):=by
 intro α args H fr k z h;simp only [altE] at h;cases a:t args H with
 | true=>rw [a] at h;exact c α args H fr k z h
 | false=>
  rw [a] at h;have:=d α args H fr k z h;rw [b] at this;exact this
def altS (x:Sub) (t:St->Bool) (y:Sub):Sub:=⟨x.m,λα s k=>cond (t s) (x.e α s k) (y.e α s k)⟩
theorem Hy {α:Type} {n:Nat} {c:Code} {x y:Sub} {t:St->Bool} {s:St} {k:Ex->St->Option α} {z:α}
  (d:x.e α s k=some z->SemC P n c s λex a=>k ex a=some z) (f:y.e α s k=some z->SemC P n c s λex a=>k ex a=some z)
  (h:(altS x t y).e α s k=some z):SemC P n c s λex a=>k ex a=some z:=by
 simp only [altS] at h;cases b:t s with
 | true=>rw [b] at h;exact d h
 | false=>rw [b] at h;exact f h
def isS {α:Type}:Option α->Bool
 | some _=>true
 | none=>false
end Go.Abs
