/- Chapter 13: the law on spreading marks: its core.
   Conditions: none. -/
import Derived.Test.YtpbhbpjobkdgmaaLawMarks
set_option linter.unusedSimpArgs false
set_option linter.unusedVariables false
set_option maxRecDepth 100000
namespace Go.Sh
open Go.Abs

noncomputable def coreMarksSpread (L : Option Bool) (n : Nat) (a0 : List Int) (a1 : List Int) (a2 : Int) : Option (Bool) :=
  (ob (circaref13_All n a0 a2) fun r8 => (cond (r8 == 0) (ob (circaref13_All n a1 a2) fun r9 => (ob (marks_Spread n a0 a1 a2) fun r30 => (cond (r30.2 != r9) (some false) (ob (marks_All n a0 a2) fun r31 => (ob (circaref13_All n a0 a2) fun r32 => (cond (r31 != r32) (some false) (cond (r9 != 0) (cond (r30.1 == ([0, 0, 0] : List Int)) (ob L fun r93 => (some r93)) (some false)) (ob (circaref13_Spread n a0 a1 a2) fun r106 => (cond (!(r30.1 == r106)) (some false) (ob (iterL (circalaw13_MarksSpread_l0 n) n (a2, 0, a0, a1, r30.1)) fun y126 => (Sum.casesOn (motive := fun _ => Option _) y126 (fun a127 => (some a127)) (fun b128 => (ob L fun r129 => (some r129)))))))))))))) (ob (marks_Spread n a0 a1 a2) fun r130 => (cond (r130.2 != r8) (some false) (ob (marks_All n a0 a2) fun r131 => (ob (circaref13_All n a0 a2) fun r132 => (cond (r131 != r132) (some false) (cond (r8 != 0) (cond (r130.1 == ([0, 0, 0] : List Int)) (ob L fun r133 => (some r133)) (some false)) (ob (circaref13_Spread n a0 a1 a2) fun r134 => (cond (!(r130.1 == r134)) (some false) (ob (iterL (circalaw13_MarksSpread_l0 n) n (a2, 0, a0, a1, r130.1)) fun y135 => (Sum.casesOn (motive := fun _ => Option _) y135 (fun a136 => (some a136)) (fun b137 => (ob L fun r138 => (some r138)))))))))))))))


theorem core_spread (n : Nat) (a b : List Int) (k : Int) : circalaw13_MarksSpread n a b k = coreMarksSpread (circalaw13_lives n) n a b k := rfl

theorem sp1 : allN (fun x => allN (fun u => isT (coreMarksSpread (some true) 5000 [x, 0, 0] [u, 0, 0] 1)) 4) 4 = true := by kernel_rfl
theorem sp2 : allN (fun x => allN (fun y => allN (fun u => allN (fun v => isT (coreMarksSpread (some true) 5000 [x, y, 0] [u, v, 0] 2)) 4) 4) 4) 4 = true := by kernel_rfl

end Go.Sh
