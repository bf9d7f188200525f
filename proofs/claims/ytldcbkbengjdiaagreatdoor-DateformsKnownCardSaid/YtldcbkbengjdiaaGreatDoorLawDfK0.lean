/- Chapter 15: the closed law: what each round is to answer.
   Conditions: none. -/
import Derived.Test.YtldcbkbengjdiaaGreatDoorShD
import Derived.KernelRfl
set_option maxRecDepth 100000
namespace Go.Sh
open Go.Abs

noncomputable def dfk_chk0 (j : Nat) : Bool := match circalaw15_DateformsKnown_l0 300 (([88, 48, 49, 50, 51, 52, 53, 54, 55, 56, 57] : List UInt8), (j : Int)) with
  | some (.inl (q, a)) => q == ([88, 48, 49, 50, 51, 52, 53, 54, 55, 56, 57] : List UInt8) && a == ((j + 1 : Nat) : Int)
  | _ => false
noncomputable def dfk_chk2 (j : Nat) : Bool := match circalaw15_DateformsKnown_l2 300 ((20 + j : Nat) : Int) with
  | some (.inl a) => a == ((20 + (j + 1) : Nat) : Int)
  | _ => false
noncomputable def dfk_chk4 (j : Nat) : Bool := match circalaw15_DateformsKnown_l4 300 ((j : Int), ([[], [63], [126], [37]] : List (List UInt8))) with
  | some (.inl (a, q)) => a == ((j + 1 : Nat) : Int) && q == ([[], [63], [126], [37]] : List (List UInt8))
  | _ => false

end Go.Sh
