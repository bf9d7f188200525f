/- Each function of the program computes its plain function: the certificates.
   Conditions: none. Printed by the bench tool gen.py. -/
import Derived.Test.YtldcbkbengjdiaaGreatDoorCeD
import Derived.Test.YtldcbkbengjdiaaGreatDoorYText
set_option linter.unusedVariables false
set_option linter.unusedSimpArgs false
set_option maxRecDepth 100000
set_option maxHeartbeats 4000000
namespace Go.Sh
open Go.Abs Go.Proofs
noncomputable section

noncomputable def e_lib_53 (n : Nat) : Ent := ytextE 53 (yearforms_Check n)
theorem ok_lib_53 (n : Nat) : EntOK Tryz.prog (e_lib_53 n) := ytextE_ok Tryz.call53 (ytext_err n) (ytext_ok n)
def c53 (n : Nat) : FE Tryz.prog := libF (ok_lib_53 n)

def c54 (n : Nat) : PF Tryz.prog 54 [.i .u8] (.tp [.s, .i .i64]) := pureC Tryz.func54 Tryz.call54 [(c119 n).e, (c120 n).e] [] [] (marks_Text n) (by kernel_rfl)

noncomputable def e_lib_55 (_n : Nat) : Ent := joinE 55
theorem ok_lib_55 (n : Nat) : EntOK Tryz.prog (e_lib_55 n) := joinE_ok Tryz.call55 Tryz.strings_Join_none Tryz.strings_Join
def c55 (n : Nat) : FE Tryz.prog := libF (ok_lib_55 n)

def c15E (n : Nat) : List (FE Tryz.prog) := [(c16 n).e, (c21 n).e, (c52 n).e, (c53 n), (c54 n).e, (c55 n)]
def c15l0 (n : Nat) : LP Tryz.prog Tryz.f15.ntmps := loopC (c15E n) [] 0 (sb (acU [] Tryz.f15) 0) ⟨[(6, .p 1 0), (7, .p 2 0), (11, .ws 3), (48, .rs 1 4 0 .q none), (49, .i .i64), (50, .i .i64)], [(1, .ints .u8 3), (2, .ints .u8 3), (3, .rows [.s]), (4, .rows [.s])], 5, 0, 0, 0⟩ [] [⟨.exit 0, ⟨[(11, .ws 3)], [(3, .rows [.s])], 5, 0, 0, 0⟩⟩] (dateforms_Text_l0 n) n (by kernel_rfl)
def c15 (n : Nat) : PF Tryz.prog 15 [.ag [.b, .b, .s, .i .i64, .i .i64, .s, .s, .i .u8, .i .u8, .i .u8]] (.tp [.s, .i .i64]) := pureC Tryz.func15 Tryz.call15 (c15E n) [c15l0 n] [] (dateforms_Text n) (by kernel_rfl)

def c23 (n : Nat) : PF Tryz.prog 23 [.ag [.b, .b, .s, .i .i64, .i .i64, .s, .s, .i .u8, .i .u8, .i .u8]] (.i .u8) := pureC Tryz.func23 Tryz.call23 [(c19 n).e] [] [] (dateforms_Precision n) (by kernel_rfl)

def c12E (n : Nat) : List (FE Tryz.prog) := [(c13 n).e, (c15 n).e, (c23 n).e]
def c12l0 (n : Nat) : LP Tryz.prog Tryz.f12.ntmps := loopC (c12E n) [] 0 (sb (acU [] Tryz.f12) 0) ⟨[(16, .ws 3), (17, .i .i64)], [(3, .rows [.s])], 4, 0, 0, 0⟩ [] [⟨.ret, ⟨[(0, .b)], [], 4, 0, 0, 0⟩⟩, ⟨.exit 0, ⟨[], [], 4, 0, 0, 0⟩⟩] (circalaw15_lives_l0 n) n (by kernel_rfl)
def c12l1 (n : Nat) : LP Tryz.prog Tryz.f12.ntmps := loopC (c12E n) [] 1 (sb (acU [] Tryz.f12) 1) ⟨[(21, .ws 4), (22, .ws 5), (23, .ws 6), (24, .i .i64)], [(4, .rows [.s]), (5, .rows [.i .i64]), (6, .rows [.i .i64])], 7, 0, 0, 0⟩ [] [⟨.ret, ⟨[(0, .b)], [], 7, 0, 0, 0⟩⟩, ⟨.exit 2, ⟨[], [], 7, 0, 0, 0⟩⟩] (circalaw15_lives_l1 n) n (by kernel_rfl)
def c12 (n : Nat) : PF Tryz.prog 12 [] (.b) := pureC Tryz.func12 Tryz.call12 (c12E n) [c12l0 n, c12l1 n] [] (circalaw15_lives n) (by kernel_rfl)

def c60 (n : Nat) : PF Tryz.prog 60 [.i .u8] (.s) := pureC Tryz.func60 Tryz.call60 [] [] [] (circaref13_Text n) (by kernel_rfl)

def c131E (n : Nat) : List (FE Tryz.prog) := [(c60 n).e]
def c131l0 (n : Nat) : LP Tryz.prog Tryz.f131.ntmps := loopC (c131E n) [] 0 (sb (acU [] Tryz.f131) 0) ⟨[(0, .i .u8), (3, .i .u8)], [], 0, 0, 0, 0⟩ [] [⟨.ret, ⟨[(2, .i .u8)], [], 0, 0, 0, 0⟩⟩, ⟨.exit 0, ⟨[], [], 0, 0, 0, 0⟩⟩] (circaref13_Of_l0 n) n (by kernel_rfl)
def c131 (n : Nat) : PF Tryz.prog 131 [.i .u8] (.i .u8) := pureC Tryz.func131 Tryz.call131 (c131E n) [c131l0 n] [] (circaref13_Of n) (by kernel_rfl)

def c70 (n : Nat) : PF Tryz.prog 70 [.ag [.s, .i .i64, .i .i64]] (.tp [.i .u8, .ag [.s, .i .i64, .i .i64]]) := pureC Tryz.func70 Tryz.call70 [(c131 n).e] [] [] (circaref15_mark n) (by kernel_rfl)

def c132 (n : Nat) : PF Tryz.prog 132 [.s, .i .i64, .i .u8] (.tp [.i .i64, .i .i64]) := pureC Tryz.func132 Tryz.call132 [] [] [] (circaref14_number n) (by kernel_rfl)

def c71E (n : Nat) : List (FE Tryz.prog) := [(c132 n).e]
def c71l0 (n : Nat) : LP Tryz.prog Tryz.f71.ntmps := loopC (c71E n) [] 0 (sb (acU [] Tryz.f71) 0) ⟨[(0, .s), (4, .p 0 0), (7, .p 1 0), (8, .i .i64), (9, .i .i64), (10, .i .i64)], [(0, .cells [.b, .b, .s, .i .i64, .i .i64]), (1, .cells [.b, .b, .s, .i .i64, .i .i64])], 2, 0, 0, 0⟩ [] [⟨.ret, ⟨[(4, .p 0 0), (5, .i .i64), (6, .i .i64)], [(0, .cells [.b, .b, .s, .i .i64, .i .i64])], 2, 0, 0, 0⟩⟩, ⟨.exit 0, ⟨[(0, .s), (4, .p 0 0), (7, .p 1 0), (8, .i .i64), (9, .i .i64)], [(0, .cells [.b, .b, .s, .i .i64, .i .i64]), (1, .cells [.b, .b, .s, .i .i64, .i .i64])], 2, 0, 0, 0⟩⟩] (circaref14_Read_l0 n) n (by kernel_rfl)
def c71 (n : Nat) : PF Tryz.prog 71 [.s, .i .i64] (.tp [.ag [.b, .b, .s, .i .i64, .i .i64], .i .i64, .i .i64]) := pureC Tryz.func71 Tryz.call71 (c71E n) [c71l0 n] [] (circaref14_Read n) (by kernel_rfl)

def c72l0 (n : Nat) : LP Tryz.prog Tryz.f72.ntmps := loopC [] [] 0 (sb (acU [] Tryz.f72) 0) ⟨[(1, .p 0 0), (3, .p 1 0), (4, .i .i64), (5, .i .i64)], [(0, .cells [.s, .i .i64, .i .i64]), (1, .cells [.s, .i .i64, .i .i64])], 2, 0, 0, 0⟩ [] [⟨.ret, ⟨[(2, .s), (3, .p 1 0)], [(1, .cells [.s, .i .i64, .i .i64])], 2, 0, 0, 0⟩⟩, ⟨.exit 0, ⟨[(1, .p 0 0), (3, .p 1 0), (4, .i .i64)], [(0, .cells [.s, .i .i64, .i .i64]), (1, .cells [.s, .i .i64, .i .i64])], 2, 0, 0, 0⟩⟩] (circaref15_two_l0 n) n (by kernel_rfl)
def c72 (n : Nat) : PF Tryz.prog 72 [.ag [.s, .i .i64, .i .i64]] (.tp [.s, .ag [.s, .i .i64, .i .i64]]) := pureC Tryz.func72 Tryz.call72 [] [c72l0 n] [] (circaref15_two n) (by kernel_rfl)

def c133 (n : Nat) : PF Tryz.prog 133 [.i .u8, .i .u8] (.i .i64) := pureC Tryz.func133 Tryz.call133 [] [] [] (circaref13_bit n) (by kernel_rfl)

def c73E (n : Nat) : List (FE Tryz.prog) := [(c133 n).e]
def c73l2 (n : Nat) : LP Tryz.prog Tryz.f73.ntmps := loopC (c73E n) [] 2 (sb (sb (sb (acU [] Tryz.f73) 0).body 1).body 2) ⟨[(2, .i .i64), (3, .p 0 0), (4, .p 1 0), (6, .p 2 0), (7, .p 3 0), (8, .i .u8), (9, .i .i64), (10, .i .i64), (11, .i .i64)], [(0, .ints .u8 3), (1, .ints .u8 3), (2, .ints .u8 3), (3, .ints .u8 3)], 4, 0, 0, 0⟩ [] [⟨.exit 4, ⟨[(2, .i .i64), (3, .p 0 0), (4, .p 1 0), (6, .p 2 0), (7, .p 3 0), (8, .i .u8), (9, .i .i64), (10, .i .i64)], [(0, .ints .u8 3), (1, .ints .u8 3), (2, .ints .u8 3), (3, .ints .u8 3)], 4, 0, 0, 0⟩⟩] (circaref13_Spread_l2 n) n (by kernel_rfl)
def c73l1 (n : Nat) : LP Tryz.prog Tryz.f73.ntmps := loopC (c73E n) [c73l2 n] 1 (sb (sb (acU [] Tryz.f73) 0).body 1) ⟨[(2, .i .i64), (3, .p 0 0), (4, .p 1 0), (6, .p 2 0), (7, .p 3 0), (8, .i .u8), (9, .i .i64)], [(0, .ints .u8 3), (1, .ints .u8 3), (2, .ints .u8 3), (3, .ints .u8 3)], 4, 0, 0, 0⟩ [] [⟨.exit 2, ⟨[(2, .i .i64), (3, .p 0 0), (4, .p 1 0), (6, .p 2 0), (7, .p 3 0), (8, .i .u8)], [(0, .ints .u8 3), (1, .ints .u8 3), (2, .ints .u8 3), (3, .ints .u8 3)], 4, 0, 0, 0⟩⟩] (circaref13_Spread_l1 n) n (by kernel_rfl)
def c73l0 (n : Nat) : LP Tryz.prog Tryz.f73.ntmps := loopC (c73E n) [c73l1 n] 0 (sb (acU [] Tryz.f73) 0) ⟨[(2, .i .i64), (3, .p 0 0), (4, .p 1 0), (6, .p 2 0), (7, .p 3 0), (8, .i .u8)], [(0, .ints .u8 3), (1, .ints .u8 3), (2, .ints .u8 3), (3, .ints .u8 3)], 4, 0, 0, 0⟩ [] [⟨.exit 0, ⟨[(6, .p 2 0), (7, .p 3 0)], [(2, .ints .u8 3), (3, .ints .u8 3)], 4, 0, 0, 0⟩⟩] (circaref13_Spread_l0 n) n (by kernel_rfl)
def c73 (n : Nat) : PF Tryz.prog 73 [.ai .u8 3, .ai .u8 3, .i .i64] (.ai .u8 3) := pureC Tryz.func73 Tryz.call73 (c73E n) [c73l0 n] [] (circaref13_Spread n) (by kernel_rfl)

def c27E (n : Nat) : List (FE Tryz.prog) := [(c70 n).e, (c71 n).e, (c72 n).e, (c73 n).e]
def c27l0 (n : Nat) : LP Tryz.prog Tryz.f27.ntmps := loopC (c27E n) [] 0 (sb (acU [] Tryz.f27) 0) ⟨[(0, .s), (4, .p 0 0), (5, .p 1 0), (6, .p 2 0), (7, .p 3 0), (8, .p 4 0), (9, .p 5 0), (10, .p 6 0), (11, .p 7 0), (12, .i .i64), (13, .i .i64)], [(0, .cells [.b, .b, .s, .i .i64, .i .i64, .s, .s, .i .u8, .i .u8, .i .u8]), (1, .ints .i64 3), (2, .cells [.s, .i .i64, .i .i64]), (3, .cells [.b, .b, .s, .i .i64, .i .i64, .s, .s, .i .u8, .i .u8, .i .u8]), (4, .ints .i64 3), (5, .ints .u8 3), (6, .ints .u8 3), (7, .cells [.s, .i .i64, .i .i64])], 8, 0, 0, 0⟩ [] [⟨.exit 0, ⟨[(4, .p 0 0), (5, .p 1 0), (6, .p 2 0), (7, .p 3 0), (8, .p 4 0), (9, .p 5 0), (10, .p 6 0), (11, .p 7 0), (12, .i .i64)], [(0, .cells [.b, .b, .s, .i .i64, .i .i64, .s, .s, .i .u8, .i .u8, .i .u8]), (1, .ints .i64 3), (2, .cells [.s, .i .i64, .i .i64]), (3, .cells [.b, .b, .s, .i .i64, .i .i64, .s, .s, .i .u8, .i .u8, .i .u8]), (4, .ints .i64 3), (5, .ints .u8 3), (6, .ints .u8 3), (7, .cells [.s, .i .i64, .i .i64])], 8, 0, 0, 0⟩⟩, ⟨.ret, ⟨[(4, .p 0 0), (5, .p 1 0), (6, .p 2 0)], [(0, .cells [.b, .b, .s, .i .i64, .i .i64, .s, .s, .i .u8, .i .u8, .i .u8]), (1, .ints .i64 3), (2, .cells [.s, .i .i64, .i .i64])], 8, 0, 0, 0⟩⟩] (circaref15_Read_l0 n) n (by kernel_rfl)
def c27 (n : Nat) : PF Tryz.prog 27 [.s, .i .i64] (.tp [.ag [.b, .b, .s, .i .i64, .i .i64, .s, .s, .i .u8, .i .u8, .i .u8], .ai .i64 3, .ag [.s, .i .i64, .i .i64]]) := pureC Tryz.func27 Tryz.call27 (c27E n) [c27l0 n] [] (circaref15_Read n) (by kernel_rfl)

def c176l0 (n : Nat) : LP Tryz.prog Tryz.f176.ntmps := loopC [] [] 0 (sb (acU [] Tryz.f176) 0) ⟨[(0, .s), (1, .i .u8), (2, .i .u8), (7, .i .i64), (8, .i .i64)], [], 0, 0, 0, 0⟩ [] [⟨.exit 0, ⟨[(7, .i .i64)], [], 0, 0, 0, 0⟩⟩] (circaref14_has_l0 n) n (by kernel_rfl)
def c176 (n : Nat) : PF Tryz.prog 176 [.s, .i .u8, .i .u8] (.i .i64) := pureC Tryz.func176 Tryz.call176 [] [c176l0 n] [] (circaref14_has n) (by kernel_rfl)

def c135l0 (n : Nat) : LP Tryz.prog Tryz.f135.ntmps := loopC [] [] 0 (sb (acU [] Tryz.f135) 0) ⟨[(0, .s), (1, .i .i64), (6, .i .i64), (7, .i .i64)], [], 0, 0, 0, 0⟩ [] [⟨.ret, ⟨[(4, .i .i64), (5, .i .i64)], [], 0, 0, 0, 0⟩⟩, ⟨.exit 0, ⟨[(6, .i .i64)], [], 0, 0, 0, 0⟩⟩] (circaref14_Magnitude_l0 n) n (by kernel_rfl)
def c135 (n : Nat) : PF Tryz.prog 135 [.s, .i .i64] (.tp [.i .i64, .i .i64]) := pureC Tryz.func135 Tryz.call135 [] [c135l0 n] [] (circaref14_Magnitude n) (by kernel_rfl)

def c127 (n : Nat) : PF Tryz.prog 127 [.ag [.b, .b, .s, .i .i64, .i .i64]] (.i .i64) := pureC Tryz.func127 Tryz.call127 [(c176 n).e, (c135 n).e] [] [] (circaref14_Check n) (by kernel_rfl)

def c28 (n : Nat) : PF Tryz.prog 28 [.i .i64] (.s) := pureC Tryz.func28 Tryz.call28 [] [] [] (circaref15_Two n) (by kernel_rfl)

def c20E (n : Nat) : List (FE Tryz.prog) := [(c28 n).e]
def c20l0 (n : Nat) : LP Tryz.prog Tryz.f20.ntmps := loopC (c20E n) [] 0 (sb (acU [] Tryz.f20) 0) ⟨[(1, .p 0 0), (3, .i .i64)], [(0, .cells [.b, .b, .s, .i .i64, .i .i64, .s, .s, .i .u8, .i .u8, .i .u8])], 1, 0, 0, 0⟩ [] [⟨.ret, ⟨[(2, .i .i64)], [], 1, 0, 0, 0⟩⟩, ⟨.exit 0, ⟨[], [], 1, 0, 0, 0⟩⟩] (circaref15_Season_l0 n) n (by kernel_rfl)
def c20 (n : Nat) : PF Tryz.prog 20 [.ag [.b, .b, .s, .i .i64, .i .i64, .s, .s, .i .u8, .i .u8, .i .u8]] (.i .i64) := pureC Tryz.func20 Tryz.call20 (c20E n) [c20l0 n] [] (circaref15_Season n) (by kernel_rfl)

def c134 (n : Nat) : PF Tryz.prog 134 [.ag [.b, .b, .s, .i .i64, .i .i64]] (.i .i64) := pureC Tryz.func134 Tryz.call134 [(c176 n).e] [] [] (circaref14_Masked n) (by kernel_rfl)

def c74 (n : Nat) : PF Tryz.prog 74 [.ag [.b, .b, .s, .i .i64, .i .i64, .s, .s, .i .u8, .i .u8, .i .u8]] (.i .i64) := pureC Tryz.func74 Tryz.call74 [(c127 n).e, (c20 n).e, (c134 n).e, (c135 n).e] [] [] (circaref15_year n) (by kernel_rfl)

def c136 (n : Nat) : PF Tryz.prog 136 [.s, .i .i64] (.i .i64) := pureC Tryz.func136 Tryz.call136 [(c28 n).e] [] [] (circaref15_Agrees n) (by kernel_rfl)

def c75E (n : Nat) : List (FE Tryz.prog) := [(c136 n).e]
def c75l0 (n : Nat) : LP Tryz.prog Tryz.f75.ntmps := loopC (c75E n) [] 0 (sb (acU [] Tryz.f75) 0) ⟨[(0, .s), (1, .i .i64), (5, .i .i64)], [], 0, 0, 0, 0⟩ [] [⟨.ret, ⟨[(4, .i .i64)], [], 0, 0, 0, 0⟩⟩, ⟨.exit 0, ⟨[], [], 0, 0, 0, 0⟩⟩] (circaref15_Some_l0 n) n (by kernel_rfl)
def c75 (n : Nat) : PF Tryz.prog 75 [.s, .i .i64] (.i .i64) := pureC Tryz.func75 Tryz.call75 (c75E n) [c75l0 n] [] (circaref15_Some n) (by kernel_rfl)

def c22 (n : Nat) : PF Tryz.prog 22 [.ag [.b, .b, .s, .i .i64, .i .i64, .s, .s, .i .u8, .i .u8, .i .u8]] (.i .i64) := pureC Tryz.func22 Tryz.call22 [] [] [] (circaref15_Components n) (by kernel_rfl)

def c76l0 (n : Nat) : LP Tryz.prog Tryz.f76.ntmps := loopC [] [] 0 (sb (acU [] Tryz.f76) 0) ⟨[(1, .i .i64), (2, .p 0 0), (5, .i .i64)], [(0, .ints .u8 3)], 1, 0, 0, 0⟩ [] [⟨.ret, ⟨[(4, .i .i64)], [], 1, 0, 0, 0⟩⟩, ⟨.exit 0, ⟨[], [], 1, 0, 0, 0⟩⟩] (circaref13_All_l0 n) n (by kernel_rfl)
def c76 (n : Nat) : PF Tryz.prog 76 [.ai .u8 3, .i .i64] (.i .i64) := pureC Tryz.func76 Tryz.call76 [] [c76l0 n] [] (circaref13_All n) (by kernel_rfl)

def c29 (n : Nat) : PF Tryz.prog 29 [.ag [.b, .b, .s, .i .i64, .i .i64, .s, .s, .i .u8, .i .u8, .i .u8]] (.i .i64) := pureC Tryz.func29 Tryz.call29 [(c74 n).e, (c20 n).e, (c75 n).e, (c22 n).e, (c76 n).e] [] [] (circaref15_Check n) (by kernel_rfl)

def c14 (n : Nat) : PF Tryz.prog 14 [.s] (.tp [.ag [.b, .b, .s, .i .i64, .i .i64, .s, .s, .i .u8, .i .u8, .i .u8], .i .i64, .i .i64]) := pureC Tryz.func14 Tryz.call14 [(c27 n).e, (c29 n).e] [] [] (circaref15_Parse n) (by kernel_rfl)

def c59l0 (n : Nat) : LP Tryz.prog Tryz.f59.ntmps := loopC [] [] 0 (sb (acU [] Tryz.f59) 0) ⟨[(1, .i .i64), (2, .p 0 0), (4, .p 1 0), (5, .p 2 0), (6, .p 3 0), (7, .p 4 0), (8, .b), (9, .i .i64)], [(0, .ints .u8 3), (1, .ints .u8 3), (2, .ints .u8 3), (3, .ints .u8 3), (4, .ints .u8 3)], 5, 0, 0, 0⟩ [] [⟨.exit 0, ⟨[(1, .i .i64), (2, .p 0 0), (4, .p 1 0), (5, .p 2 0), (6, .p 3 0), (7, .p 4 0), (8, .b)], [(0, .ints .u8 3), (1, .ints .u8 3), (2, .ints .u8 3), (3, .ints .u8 3), (4, .ints .u8 3)], 5, 0, 0, 0⟩⟩] (circaref13_Plain_l0 n) n (by kernel_rfl)
def c59l1 (n : Nat) : LP Tryz.prog Tryz.f59.ntmps := loopC [] [] 1 (sb (acU [] Tryz.f59) 1) ⟨[(1, .i .i64), (2, .p 0 0), (4, .p 1 0), (5, .p 2 0), (6, .p 3 0), (7, .p 4 0), (10, .i .i64)], [(0, .ints .u8 3), (1, .ints .u8 3), (2, .ints .u8 3), (3, .ints .u8 3), (4, .ints .u8 3)], 5, 0, 0, 0⟩ [] [⟨.exit 2, ⟨[(4, .p 1 0), (5, .p 2 0), (6, .p 3 0), (7, .p 4 0)], [(1, .ints .u8 3), (2, .ints .u8 3), (3, .ints .u8 3), (4, .ints .u8 3)], 5, 0, 0, 0⟩⟩] (circaref13_Plain_l1 n) n (by kernel_rfl)
def c59 (n : Nat) : PF Tryz.prog 59 [.ai .u8 3, .i .i64] (.tp [.ai .u8 3, .ai .u8 3]) := pureC Tryz.func59 Tryz.call59 [] [c59l0 n, c59l1 n] [] (circaref13_Plain n) (by kernel_rfl)

def c125 (n : Nat) : PF Tryz.prog 125 [.i .i64] (.s) := pureC Tryz.func125 Tryz.call125 [] [] [] (circaref14_Decimal n) (by kernel_rfl)

def c61 (n : Nat) : PF Tryz.prog 61 [.ag [.b, .b, .s, .i .i64, .i .i64]] (.s) := pureC Tryz.func61 Tryz.call61 [(c125 n).e] [] [] (circaref14_Text n) (by kernel_rfl)

def c17 (n : Nat) : PF Tryz.prog 17 [.ag [.b, .b, .s, .i .i64, .i .i64, .s, .s, .i .u8, .i .u8, .i .u8]] (.s) := pureC Tryz.func17 Tryz.call17 [(c22 n).e, (c59 n).e, (c60 n).e, (c61 n).e] [] [] (circaref15_Text n) (by kernel_rfl)

def c3 (n : Nat) : PF Tryz.prog 3 [.s] (.b) := pureC Tryz.func3 Tryz.call3 [(c12 n).e, (c13 n).e, (c14 n).e, (c15 n).e, (c16 n).e, (c17 n).e] [] [] (circalaw15_DateformsParse n) (by kernel_rfl)

def c6E (n : Nat) : List (FE Tryz.prog) := [(c3 n).e, (c28 n).e, (c13 n).e, (c12 n).e]
def c6l1 (n : Nat) : LP Tryz.prog Tryz.f6.ntmps := loopC (c6E n) [] 1 (sb (sb (acU [] Tryz.f6) 0).body 1) ⟨[(1, .s), (2, .i .i64), (3, .i .i64)], [], 0, 0, 0, 0⟩ [] [⟨.ret, ⟨[(0, .b)], [], 0, 0, 0, 0⟩⟩, ⟨.exit 2, ⟨[(1, .s), (2, .i .i64)], [], 0, 0, 0, 0⟩⟩] (circalaw15_DateformsKnown_l1 n) n (by kernel_rfl)
def c6l0 (n : Nat) : LP Tryz.prog Tryz.f6.ntmps := loopC (c6E n) [c6l1 n] 0 (sb (acU [] Tryz.f6) 0) ⟨[(1, .s), (2, .i .i64)], [], 0, 0, 0, 0⟩ [] [⟨.ret, ⟨[(0, .b)], [], 0, 0, 0, 0⟩⟩, ⟨.exit 0, ⟨[], [], 0, 0, 0, 0⟩⟩] (circalaw15_DateformsKnown_l0 n) n (by kernel_rfl)
def c6l3 (n : Nat) : LP Tryz.prog Tryz.f6.ntmps := loopC (c6E n) [] 3 (sb (sb (acU [] Tryz.f6) 2).body 3) ⟨[(5, .i .i64), (6, .s), (7, .ws 0), (8, .i .i64)], [(0, .rows [.s])], 1, 0, 0, 0⟩ [] [⟨.ret, ⟨[(0, .b)], [], 1, 0, 0, 0⟩⟩, ⟨.exit 6, ⟨[(5, .i .i64)], [], 1, 0, 0, 0⟩⟩] (circalaw15_DateformsKnown_l3 n) n (by kernel_rfl)
def c6l2 (n : Nat) : LP Tryz.prog Tryz.f6.ntmps := loopC (c6E n) [c6l3 n] 2 (sb (acU [] Tryz.f6) 2) ⟨[(5, .i .i64)], [], 0, 0, 0, 0⟩ [] [⟨.ret, ⟨[(0, .b)], [], 0, 0, 0, 0⟩⟩, ⟨.exit 4, ⟨[], [], 0, 0, 0, 0⟩⟩] (circalaw15_DateformsKnown_l2 n) n (by kernel_rfl)
def c6l4 (n : Nat) : LP Tryz.prog Tryz.f6.ntmps := loopC (c6E n) [] 4 (sb (acU [] Tryz.f6) 4) ⟨[(9, .ws 0), (10, .i .i64)], [(0, .rows [.s])], 1, 0, 0, 0⟩ [] [⟨.ret, ⟨[(0, .b)], [], 1, 0, 0, 0⟩⟩, ⟨.exit 8, ⟨[], [], 1, 0, 0, 0⟩⟩] (circalaw15_DateformsKnown_l4 n) n (by kernel_rfl)
def c6 (n : Nat) : PF Tryz.prog 6 [] (.b) := pureC Tryz.func6 Tryz.call6 (c6E n) [c6l0 n, c6l2 n, c6l4 n] [] (circalaw15_DateformsKnown n) (by kernel_rfl)
theorem pure_circalaw15_DateformsKnown (n : Nat) : ∀ a r, circalaw15_DateformsKnown n = some r → PureOK Tryz.prog 6 (argP [] a) (encP (.b) r) := fun a r h => (c6 n).ok a r h

end
end Go.Sh
