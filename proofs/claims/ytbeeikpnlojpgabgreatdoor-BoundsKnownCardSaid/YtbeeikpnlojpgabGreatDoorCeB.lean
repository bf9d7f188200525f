/- Each function of the program computes its plain function: the certificates.
   Conditions: none. Printed by the bench tool gen.py. -/
import Derived.Test.YtbeeikpnlojpgabGreatDoorShB
import Derived.Test.YtbeeikpnlojpgabGreatDoorProg
import Derived.Test.YtbeeikpnlojpgabGreatDoorAbsX
import Derived.Test.YtbeeikpnlojpgabGreatDoorAbsU
import Derived.Test.YtbeeikpnlojpgabGreatDoorAbsW
import Derived.KernelRfl
import Derived.Test.YtbeeikpnlojpgabGreatDoorAbsPat
import Derived.Test.YtbeeikpnlojpgabGreatDoorShelf
import Derived.Test.YtbeeikpnlojpgabGreatDoorHGa
import Derived.Test.YtbeeikpnlojpgabGreatDoorHGb
import Derived.Test.YtbeeikpnlojpgabGreatDoorHGe
import Derived.Test.YtbeeikpnlojpgabGreatDoorHGm
import Derived.Test.YtbeeikpnlojpgabGreatDoorHGs
set_option linter.unusedVariables false
set_option linter.unusedSimpArgs false
set_option maxRecDepth 100000
set_option maxHeartbeats 4000000
namespace Go.Sh
open Go.Abs Go.Proofs
noncomputable section

def c5 (n : Nat) : PF Tryz.prog 5 [.i .i64] (.s) := pureC Tryz.func5 Tryz.call5 [] [] [] [] (circaref15_Two n) (by kernel_rfl) (by kernel_rfl)

def c161 (n : Nat) : PF Tryz.prog 161 [.i .u8] (.s) := pureC Tryz.func161 Tryz.call161 [] [] [] [] (circaref13_Text n) (by kernel_rfl) (by kernel_rfl)

def c116E (n : Nat) : List (FE Tryz.prog) := [(c161 n).e]
def c116l0 (n : Nat) : LP Tryz.prog Tryz.f116.ntmps := loopC (c116E n) [] 0 (sb (acM [] [] Tryz.f116) 0) ⟨[(0, .i .u8), (3, .i .u8)], [], 0, 0, 0, 0⟩ [] [⟨.ret, ⟨[(2, .i .u8)], [], 0, 0, 0, 0⟩⟩, ⟨.exit 0, ⟨[], [], 0, 0, 0, 0⟩⟩] (circaref13_Of_l0 n) n (by kernel_rfl) (by kernel_rfl)
def c116 (n : Nat) : PF Tryz.prog 116 [.i .u8] (.i .u8) := pureC Tryz.func116 Tryz.call116 (c116E n) [c116l0 n] [] [] (circaref13_Of n) (by kernel_rfl) (by kernel_rfl)

def c70 (n : Nat) : PF Tryz.prog 70 [.ag [.s, .i .i64, .i .i64]] (.tp [.i .u8, .ag [.s, .i .i64, .i .i64]]) := pureC Tryz.func70 Tryz.call70 [(c116 n).e] [] [] [] (circaref15_mark n) (by kernel_rfl) (by kernel_rfl)

def c117 (n : Nat) : PF Tryz.prog 117 [.s, .i .i64, .i .u8] (.tp [.i .i64, .i .i64]) := pureC Tryz.func117 Tryz.call117 [] [] [] [] (circaref14_number n) (by kernel_rfl) (by kernel_rfl)

def c71E (n : Nat) : List (FE Tryz.prog) := [(c117 n).e]
def c71l0 (n : Nat) : LP Tryz.prog Tryz.f71.ntmps := loopC (c71E n) [] 0 (sb (acM [] [] Tryz.f71) 0) ⟨[(0, .s), (4, .p 0 0), (7, .p 1 0), (8, .i .i64), (9, .i .i64), (10, .i .i64)], [(0, .cells [.b, .b, .s, .i .i64, .i .i64]), (1, .cells [.b, .b, .s, .i .i64, .i .i64])], 2, 0, 0, 0⟩ [] [⟨.ret, ⟨[(4, .p 0 0), (5, .i .i64), (6, .i .i64)], [(0, .cells [.b, .b, .s, .i .i64, .i .i64])], 2, 0, 0, 0⟩⟩, ⟨.exit 0, ⟨[(0, .s), (4, .p 0 0), (7, .p 1 0), (8, .i .i64), (9, .i .i64)], [(0, .cells [.b, .b, .s, .i .i64, .i .i64]), (1, .cells [.b, .b, .s, .i .i64, .i .i64])], 2, 0, 0, 0⟩⟩] (circaref14_Read_l0 n) n (by kernel_rfl) (by kernel_rfl)
def c71 (n : Nat) : PF Tryz.prog 71 [.s, .i .i64] (.tp [.ag [.b, .b, .s, .i .i64, .i .i64], .i .i64, .i .i64]) := pureC Tryz.func71 Tryz.call71 (c71E n) [c71l0 n] [] [] (circaref14_Read n) (by kernel_rfl) (by kernel_rfl)

def c72l0 (n : Nat) : LP Tryz.prog Tryz.f72.ntmps := loopC [] [] 0 (sb (acM [] [] Tryz.f72) 0) ⟨[(1, .p 0 0), (3, .p 1 0), (4, .i .i64), (5, .i .i64)], [(0, .cells [.s, .i .i64, .i .i64]), (1, .cells [.s, .i .i64, .i .i64])], 2, 0, 0, 0⟩ [] [⟨.ret, ⟨[(2, .s), (3, .p 1 0)], [(1, .cells [.s, .i .i64, .i .i64])], 2, 0, 0, 0⟩⟩, ⟨.exit 0, ⟨[(1, .p 0 0), (3, .p 1 0), (4, .i .i64)], [(0, .cells [.s, .i .i64, .i .i64]), (1, .cells [.s, .i .i64, .i .i64])], 2, 0, 0, 0⟩⟩] (circaref15_two_l0 n) n (by kernel_rfl) (by kernel_rfl)
def c72 (n : Nat) : PF Tryz.prog 72 [.ag [.s, .i .i64, .i .i64]] (.tp [.s, .ag [.s, .i .i64, .i .i64]]) := pureC Tryz.func72 Tryz.call72 [] [c72l0 n] [] [] (circaref15_two n) (by kernel_rfl) (by kernel_rfl)

def c118 (n : Nat) : PF Tryz.prog 118 [.i .u8, .i .u8] (.i .i64) := pureC Tryz.func118 Tryz.call118 [] [] [] [] (circaref13_bit n) (by kernel_rfl) (by kernel_rfl)

def c73E (n : Nat) : List (FE Tryz.prog) := [(c118 n).e]
def c73l2 (n : Nat) : LP Tryz.prog Tryz.f73.ntmps := loopC (c73E n) [] 2 (sb (sb (sb (acM [] [] Tryz.f73) 0).body 1).body 2) ⟨[(2, .i .i64), (3, .p 0 0), (4, .p 1 0), (6, .p 2 0), (7, .p 3 0), (8, .i .u8), (9, .i .i64), (10, .i .i64), (11, .i .i64)], [(0, .ints .u8 3), (1, .ints .u8 3), (2, .ints .u8 3), (3, .ints .u8 3)], 4, 0, 0, 0⟩ [] [⟨.exit 4, ⟨[(2, .i .i64), (3, .p 0 0), (4, .p 1 0), (6, .p 2 0), (7, .p 3 0), (8, .i .u8), (9, .i .i64), (10, .i .i64)], [(0, .ints .u8 3), (1, .ints .u8 3), (2, .ints .u8 3), (3, .ints .u8 3)], 4, 0, 0, 0⟩⟩] (circaref13_Spread_l2 n) n (by kernel_rfl) (by kernel_rfl)
def c73l1 (n : Nat) : LP Tryz.prog Tryz.f73.ntmps := loopC (c73E n) [c73l2 n] 1 (sb (sb (acM [] [] Tryz.f73) 0).body 1) ⟨[(2, .i .i64), (3, .p 0 0), (4, .p 1 0), (6, .p 2 0), (7, .p 3 0), (8, .i .u8), (9, .i .i64)], [(0, .ints .u8 3), (1, .ints .u8 3), (2, .ints .u8 3), (3, .ints .u8 3)], 4, 0, 0, 0⟩ [] [⟨.exit 2, ⟨[(2, .i .i64), (3, .p 0 0), (4, .p 1 0), (6, .p 2 0), (7, .p 3 0), (8, .i .u8)], [(0, .ints .u8 3), (1, .ints .u8 3), (2, .ints .u8 3), (3, .ints .u8 3)], 4, 0, 0, 0⟩⟩] (circaref13_Spread_l1 n) n (by kernel_rfl) (by kernel_rfl)
def c73l0 (n : Nat) : LP Tryz.prog Tryz.f73.ntmps := loopC (c73E n) [c73l1 n] 0 (sb (acM [] [] Tryz.f73) 0) ⟨[(2, .i .i64), (3, .p 0 0), (4, .p 1 0), (6, .p 2 0), (7, .p 3 0), (8, .i .u8)], [(0, .ints .u8 3), (1, .ints .u8 3), (2, .ints .u8 3), (3, .ints .u8 3)], 4, 0, 0, 0⟩ [] [⟨.exit 0, ⟨[(6, .p 2 0), (7, .p 3 0)], [(2, .ints .u8 3), (3, .ints .u8 3)], 4, 0, 0, 0⟩⟩] (circaref13_Spread_l0 n) n (by kernel_rfl) (by kernel_rfl)
def c73 (n : Nat) : PF Tryz.prog 73 [.ai .u8 3, .ai .u8 3, .i .i64] (.ai .u8 3) := pureC Tryz.func73 Tryz.call73 (c73E n) [c73l0 n] [] [] (circaref13_Spread n) (by kernel_rfl) (by kernel_rfl)

def c35E (n : Nat) : List (FE Tryz.prog) := [(c70 n).e, (c71 n).e, (c72 n).e, (c73 n).e]
def c35j13 (n : Nat) : LP Tryz.prog Tryz.f35.ntmps := joinC (c35E n) [] 1013 (sb (sb (sb (acM [] [12, 13, 21, 24] Tryz.f35) 0).body 1012) 1013) ⟨[(0, .s), (4, .p 0 0), (5, .p 1 0), (6, .p 2 0), (7, .p 3 0), (8, .p 4 0), (9, .p 5 0), (10, .p 6 0), (11, .p 7 0), (12, .i .i64), (13, .i .i64)], [(0, .cells [.bk false, .bk false, .sk [], .ik .i64 0, .ik .i64 0, .sk [], .sk [], .ik .u8 0, .ik .u8 0, .ik .u8 0]), (1, .ints .i64 3), (2, .cells [.sk [], .ik .i64 0, .ik .i64 0]), (3, .cells [.b, .b, .s, .i .i64, .i .i64, .s, .s, .ik .u8 0, .ik .u8 0, .ik .u8 0]), (4, .ints .i64 3), (5, .ints .u8 3), (6, .ints .u8 3), (7, .cells [.s, .i .i64, .i .i64])], 8, 0, 0, 0⟩ [⟨.nrm, ⟨[(0, .s), (4, .p 0 0), (5, .p 1 0), (6, .p 2 0), (7, .p 3 0), (8, .p 4 0), (9, .p 5 0), (10, .p 6 0), (11, .p 7 0), (12, .i .i64), (13, .i .i64), (40, .b)], [(0, .cells [.bk false, .bk false, .sk [], .ik .i64 0, .ik .i64 0, .sk [], .sk [], .ik .u8 0, .ik .u8 0, .ik .u8 0]), (1, .ints .i64 3), (2, .cells [.sk [], .ik .i64 0, .ik .i64 0]), (3, .cells [.b, .b, .s, .i .i64, .i .i64, .s, .s, .ik .u8 0, .ik .u8 0, .ik .u8 0]), (4, .ints .i64 3), (5, .ints .u8 3), (6, .ints .u8 3), (7, .cells [.s, .i .i64, .i .i64])], 8, 0, 0, 0⟩⟩] (circaref15_Read_j13 n) (by kernel_rfl) (by kernel_rfl)
def c35j12 (n : Nat) : LP Tryz.prog Tryz.f35.ntmps := joinC (c35E n) [c35j13 n] 1012 (sb (sb (acM [] [12, 13, 21, 24] Tryz.f35) 0).body 1012) ⟨[(0, .s), (4, .p 0 0), (5, .p 1 0), (6, .p 2 0), (7, .p 3 0), (8, .p 4 0), (9, .p 5 0), (10, .p 6 0), (11, .p 7 0), (12, .i .i64), (13, .i .i64), (22, .b)], [(0, .cells [.bk false, .bk false, .sk [], .ik .i64 0, .ik .i64 0, .sk [], .sk [], .ik .u8 0, .ik .u8 0, .ik .u8 0]), (1, .ints .i64 3), (2, .cells [.sk [], .ik .i64 0, .ik .i64 0]), (3, .cells [.b, .b, .s, .i .i64, .i .i64, .s, .s, .ik .u8 0, .ik .u8 0, .ik .u8 0]), (4, .ints .i64 3), (5, .ints .u8 3), (6, .ints .u8 3), (7, .cells [.s, .i .i64, .i .i64])], 8, 0, 0, 0⟩ [⟨.exit 0, ⟨[(4, .p 0 0), (5, .p 1 0), (6, .p 2 0), (7, .p 3 0), (8, .p 4 0), (9, .p 5 0), (10, .p 6 0), (11, .p 7 0), (12, .i .i64)], [(0, .cells [.bk false, .bk false, .sk [], .ik .i64 0, .ik .i64 0, .sk [], .sk [], .ik .u8 0, .ik .u8 0, .ik .u8 0]), (1, .ints .i64 3), (2, .cells [.sk [], .ik .i64 0, .ik .i64 0]), (3, .cells [.b, .b, .s, .i .i64, .i .i64, .s, .s, .ik .u8 0, .ik .u8 0, .ik .u8 0]), (4, .ints .i64 3), (5, .ints .u8 3), (6, .ints .u8 3), (7, .cells [.s, .i .i64, .i .i64])], 8, 0, 0, 0⟩⟩, ⟨.nrm, ⟨[(0, .s), (4, .p 0 0), (5, .p 1 0), (6, .p 2 0), (7, .p 3 0), (8, .p 4 0), (9, .p 5 0), (10, .p 6 0), (11, .p 7 0), (12, .i .i64), (13, .i .i64)], [(0, .cells [.bk false, .bk false, .sk [], .ik .i64 0, .ik .i64 0, .sk [], .sk [], .ik .u8 0, .ik .u8 0, .ik .u8 0]), (1, .ints .i64 3), (2, .cells [.sk [], .ik .i64 0, .ik .i64 0]), (3, .cells [.b, .b, .s, .i .i64, .i .i64, .s, .s, .ik .u8 0, .ik .u8 0, .ik .u8 0]), (4, .ints .i64 3), (5, .ints .u8 3), (6, .ints .u8 3), (7, .cells [.s, .i .i64, .i .i64])], 8, 0, 0, 0⟩⟩] (circaref15_Read_j12 n) (by kernel_rfl) (by kernel_rfl)
def c35j24 (n : Nat) : LP Tryz.prog Tryz.f35.ntmps := joinC (c35E n) [] 1024 (sb (sb (sb (acM [] [12, 13, 21, 24] Tryz.f35) 0).body 1021) 1024) ⟨[(0, .s), (4, .p 0 0), (5, .p 1 0), (6, .p 2 0), (7, .p 3 0), (8, .p 4 0), (9, .p 5 0), (10, .p 6 0), (11, .p 7 0), (12, .i .i64), (13, .i .i64), (76, .b)], [(0, .cells [.bk false, .bk false, .sk [], .ik .i64 0, .ik .i64 0, .sk [], .sk [], .ik .u8 0, .ik .u8 0, .ik .u8 0]), (1, .ints .i64 3), (2, .cells [.sk [], .ik .i64 0, .ik .i64 0]), (3, .cells [.b, .b, .s, .i .i64, .i .i64, .s, .s, .ik .u8 0, .ik .u8 0, .ik .u8 0]), (4, .ints .i64 3), (5, .ints .u8 3), (6, .ints .u8 3), (7, .cells [.s, .i .i64, .i .i64])], 8, 0, 0, 0⟩ [⟨.nrm, ⟨[(0, .s), (4, .p 0 0), (5, .p 1 0), (6, .p 2 0), (7, .p 3 0), (8, .p 4 0), (9, .p 5 0), (10, .p 6 0), (11, .p 7 0), (12, .i .i64), (13, .i .i64)], [(0, .cells [.bk false, .bk false, .sk [], .ik .i64 0, .ik .i64 0, .sk [], .sk [], .ik .u8 0, .ik .u8 0, .ik .u8 0]), (1, .ints .i64 3), (2, .cells [.sk [], .ik .i64 0, .ik .i64 0]), (3, .cells [.b, .b, .s, .i .i64, .i .i64, .s, .s, .ik .u8 0, .ik .u8 0, .ik .u8 0]), (4, .ints .i64 3), (5, .ints .u8 3), (6, .ints .u8 3), (7, .cells [.s, .i .i64, .i .i64])], 8, 0, 0, 0⟩⟩] (circaref15_Read_j24 n) (by kernel_rfl) (by kernel_rfl)
def c35j21 (n : Nat) : LP Tryz.prog Tryz.f35.ntmps := joinC (c35E n) [c35j24 n] 1021 (sb (sb (acM [] [12, 13, 21, 24] Tryz.f35) 0).body 1021) ⟨[(0, .s), (4, .p 0 0), (5, .p 1 0), (6, .p 2 0), (7, .p 3 0), (8, .p 4 0), (9, .p 5 0), (10, .p 6 0), (11, .p 7 0), (12, .i .i64), (13, .i .i64), (56, .i .i64), (63, .b)], [(0, .cells [.bk false, .bk false, .sk [], .ik .i64 0, .ik .i64 0, .sk [], .sk [], .ik .u8 0, .ik .u8 0, .ik .u8 0]), (1, .ints .i64 3), (2, .cells [.sk [], .ik .i64 0, .ik .i64 0]), (3, .cells [.b, .b, .s, .i .i64, .i .i64, .s, .s, .ik .u8 0, .ik .u8 0, .ik .u8 0]), (4, .ints .i64 3), (5, .ints .u8 3), (6, .ints .u8 3), (7, .cells [.s, .i .i64, .i .i64])], 8, 0, 0, 0⟩ [⟨.nrm, ⟨[(0, .s), (4, .p 0 0), (5, .p 1 0), (6, .p 2 0), (7, .p 3 0), (8, .p 4 0), (9, .p 5 0), (10, .p 6 0), (11, .p 7 0), (12, .i .i64), (13, .i .i64)], [(0, .cells [.bk false, .bk false, .sk [], .ik .i64 0, .ik .i64 0, .sk [], .sk [], .ik .u8 0, .ik .u8 0, .ik .u8 0]), (1, .ints .i64 3), (2, .cells [.sk [], .ik .i64 0, .ik .i64 0]), (3, .cells [.b, .b, .s, .i .i64, .i .i64, .s, .s, .ik .u8 0, .ik .u8 0, .ik .u8 0]), (4, .ints .i64 3), (5, .ints .u8 3), (6, .ints .u8 3), (7, .cells [.s, .i .i64, .i .i64])], 8, 0, 0, 0⟩⟩] (circaref15_Read_j21 n) (by kernel_rfl) (by kernel_rfl)
def c35l0 (n : Nat) : LP Tryz.prog Tryz.f35.ntmps := loopC (c35E n) [c35j12 n, c35j21 n] 0 (sb (acM [] [12, 13, 21, 24] Tryz.f35) 0) ⟨[(0, .s), (4, .p 0 0), (5, .p 1 0), (6, .p 2 0), (7, .p 3 0), (8, .p 4 0), (9, .p 5 0), (10, .p 6 0), (11, .p 7 0), (12, .i .i64), (13, .i .i64)], [(0, .cells [.bk false, .bk false, .sk [], .ik .i64 0, .ik .i64 0, .sk [], .sk [], .ik .u8 0, .ik .u8 0, .ik .u8 0]), (1, .ints .i64 3), (2, .cells [.sk [], .ik .i64 0, .ik .i64 0]), (3, .cells [.b, .b, .s, .i .i64, .i .i64, .s, .s, .ik .u8 0, .ik .u8 0, .ik .u8 0]), (4, .ints .i64 3), (5, .ints .u8 3), (6, .ints .u8 3), (7, .cells [.s, .i .i64, .i .i64])], 8, 0, 0, 0⟩ [] [⟨.exit 0, ⟨[(4, .p 0 0), (5, .p 1 0), (6, .p 2 0), (7, .p 3 0), (8, .p 4 0), (9, .p 5 0), (10, .p 6 0), (11, .p 7 0), (12, .i .i64)], [(0, .cells [.b, .b, .s, .i .i64, .i .i64, .s, .s, .i .u8, .i .u8, .i .u8]), (1, .ints .i64 3), (2, .cells [.s, .i .i64, .i .i64]), (3, .cells [.b, .b, .s, .i .i64, .i .i64, .s, .s, .i .u8, .i .u8, .i .u8]), (4, .ints .i64 3), (5, .ints .u8 3), (6, .ints .u8 3), (7, .cells [.s, .i .i64, .i .i64])], 8, 0, 0, 0⟩⟩, ⟨.ret, ⟨[(4, .p 0 0), (5, .p 1 0), (6, .p 2 0)], [(0, .cells [.b, .b, .s, .i .i64, .i .i64, .s, .s, .i .u8, .i .u8, .i .u8]), (1, .ints .i64 3), (2, .cells [.s, .i .i64, .i .i64])], 8, 0, 0, 0⟩⟩] (circaref15_Read_l0 n) n (by kernel_rfl) (by kernel_rfl)
def c35 (n : Nat) : PF Tryz.prog 35 [.s, .i .i64] (.tp [.ag [.b, .b, .s, .i .i64, .i .i64, .s, .s, .i .u8, .i .u8, .i .u8], .ai .i64 3, .ag [.s, .i .i64, .i .i64]]) := pureC Tryz.func35 Tryz.call35 (c35E n) [c35l0 n] [] [12, 13, 21, 24] (circaref15_Read n) (by kernel_rfl) (by kernel_rfl)

def c181l0 (n : Nat) : LP Tryz.prog Tryz.f181.ntmps := loopC [] [] 0 (sb (acM [] [] Tryz.f181) 0) ⟨[(0, .s), (1, .i .u8), (2, .i .u8), (7, .i .i64), (8, .i .i64)], [], 0, 0, 0, 0⟩ [] [⟨.exit 0, ⟨[(7, .i .i64)], [], 0, 0, 0, 0⟩⟩] (circaref14_has_l0 n) n (by kernel_rfl) (by kernel_rfl)
def c181 (n : Nat) : PF Tryz.prog 181 [.s, .i .u8, .i .u8] (.i .i64) := pureC Tryz.func181 Tryz.call181 [] [c181l0 n] [] [] (circaref14_has n) (by kernel_rfl) (by kernel_rfl)

def c21l0 (n : Nat) : LP Tryz.prog Tryz.f21.ntmps := loopC [] [] 0 (sb (acM [] [] Tryz.f21) 0) ⟨[(0, .s), (1, .i .i64), (6, .i .i64), (7, .i .i64)], [], 0, 0, 0, 0⟩ [] [⟨.ret, ⟨[(4, .i .i64), (5, .i .i64)], [], 0, 0, 0, 0⟩⟩, ⟨.exit 0, ⟨[(6, .i .i64)], [], 0, 0, 0, 0⟩⟩] (circaref14_Magnitude_l0 n) n (by kernel_rfl) (by kernel_rfl)
def c21 (n : Nat) : PF Tryz.prog 21 [.s, .i .i64] (.tp [.i .i64, .i .i64]) := pureC Tryz.func21 Tryz.call21 [] [c21l0 n] [] [] (circaref14_Magnitude n) (by kernel_rfl) (by kernel_rfl)

def c157 (n : Nat) : PF Tryz.prog 157 [.ag [.b, .b, .s, .i .i64, .i .i64]] (.i .i64) := pureC Tryz.func157 Tryz.call157 [(c181 n).e, (c21 n).e] [] [] [] (circaref14_Check n) (by kernel_rfl) (by kernel_rfl)

def c22E (n : Nat) : List (FE Tryz.prog) := [(c5 n).e]
def c22l0 (n : Nat) : LP Tryz.prog Tryz.f22.ntmps := loopC (c22E n) [] 0 (sb (acM [] [] Tryz.f22) 0) ⟨[(1, .p 0 0), (3, .i .i64)], [(0, .cells [.b, .b, .s, .i .i64, .i .i64, .s, .s, .i .u8, .i .u8, .i .u8])], 1, 0, 0, 0⟩ [] [⟨.ret, ⟨[(2, .i .i64)], [], 1, 0, 0, 0⟩⟩, ⟨.exit 0, ⟨[], [], 1, 0, 0, 0⟩⟩] (circaref15_Season_l0 n) n (by kernel_rfl) (by kernel_rfl)
def c22 (n : Nat) : PF Tryz.prog 22 [.ag [.b, .b, .s, .i .i64, .i .i64, .s, .s, .i .u8, .i .u8, .i .u8]] (.i .i64) := pureC Tryz.func22 Tryz.call22 (c22E n) [c22l0 n] [] [] (circaref15_Season n) (by kernel_rfl) (by kernel_rfl)

def c158 (n : Nat) : PF Tryz.prog 158 [.ag [.b, .b, .s, .i .i64, .i .i64]] (.i .i64) := pureC Tryz.func158 Tryz.call158 [(c181 n).e] [] [] [] (circaref14_Masked n) (by kernel_rfl) (by kernel_rfl)

def c109 (n : Nat) : PF Tryz.prog 109 [.ag [.b, .b, .s, .i .i64, .i .i64, .s, .s, .i .u8, .i .u8, .i .u8]] (.i .i64) := pureC Tryz.func109 Tryz.call109 [(c157 n).e, (c22 n).e, (c158 n).e, (c21 n).e] [] [] [] (circaref15_year n) (by kernel_rfl) (by kernel_rfl)

def c159 (n : Nat) : PF Tryz.prog 159 [.s, .i .i64] (.i .i64) := pureC Tryz.func159 Tryz.call159 [(c5 n).e] [] [] [] (circaref15_Agrees n) (by kernel_rfl) (by kernel_rfl)

def c110E (n : Nat) : List (FE Tryz.prog) := [(c159 n).e]
def c110l0 (n : Nat) : LP Tryz.prog Tryz.f110.ntmps := loopC (c110E n) [] 0 (sb (acM [] [] Tryz.f110) 0) ⟨[(0, .s), (1, .i .i64), (5, .i .i64)], [], 0, 0, 0, 0⟩ [] [⟨.ret, ⟨[(4, .i .i64)], [], 0, 0, 0, 0⟩⟩, ⟨.exit 0, ⟨[], [], 0, 0, 0, 0⟩⟩] (circaref15_Some_l0 n) n (by kernel_rfl) (by kernel_rfl)
def c110 (n : Nat) : PF Tryz.prog 110 [.s, .i .i64] (.i .i64) := pureC Tryz.func110 Tryz.call110 (c110E n) [c110l0 n] [] [] (circaref15_Some n) (by kernel_rfl) (by kernel_rfl)

def c112 (n : Nat) : PF Tryz.prog 112 [.ag [.b, .b, .s, .i .i64, .i .i64, .s, .s, .i .u8, .i .u8, .i .u8]] (.i .i64) := pureC Tryz.func112 Tryz.call112 [] [] [] [] (circaref15_Components n) (by kernel_rfl) (by kernel_rfl)

def c111l0 (n : Nat) : LP Tryz.prog Tryz.f111.ntmps := loopC [] [] 0 (sb (acM [] [] Tryz.f111) 0) ⟨[(1, .i .i64), (2, .p 0 0), (5, .i .i64)], [(0, .ints .u8 3)], 1, 0, 0, 0⟩ [] [⟨.ret, ⟨[(4, .i .i64)], [], 1, 0, 0, 0⟩⟩, ⟨.exit 0, ⟨[], [], 1, 0, 0, 0⟩⟩] (circaref13_All_l0 n) n (by kernel_rfl) (by kernel_rfl)
def c111 (n : Nat) : PF Tryz.prog 111 [.ai .u8 3, .i .i64] (.i .i64) := pureC Tryz.func111 Tryz.call111 [] [c111l0 n] [] [] (circaref13_All n) (by kernel_rfl) (by kernel_rfl)

def c68 (n : Nat) : PF Tryz.prog 68 [.ag [.b, .b, .s, .i .i64, .i .i64, .s, .s, .i .u8, .i .u8, .i .u8]] (.i .i64) := pureC Tryz.func68 Tryz.call68 [(c109 n).e, (c22 n).e, (c110 n).e, (c112 n).e, (c111 n).e] [] [] [] (circaref15_Check n) (by kernel_rfl) (by kernel_rfl)

def c33 (n : Nat) : PF Tryz.prog 33 [.s] (.tp [.ag [.b, .b, .s, .i .i64, .i .i64, .s, .s, .i .u8, .i .u8, .i .u8], .i .i64, .i .i64]) := pureC Tryz.func33 Tryz.call33 [(c35 n).e, (c68 n).e] [] [] [] (circaref15_Parse n) (by kernel_rfl) (by kernel_rfl)

def c113E (n : Nat) : List (FE Tryz.prog) := [(c158 n).e, (c21 n).e]
def c113l0 (n : Nat) : LP Tryz.prog Tryz.f113.ntmps := loopC (c113E n) [] 0 (sb (acM [] [] Tryz.f113) 0) ⟨[(1, .p 0 0), (4, .s), (5, .s), (6, .i .i64)], [(0, .cells [.b, .b, .s, .i .i64, .i .i64])], 1, 0, 0, 0⟩ [] [⟨.exit 0, ⟨[(1, .p 0 0), (4, .s), (5, .s)], [(0, .cells [.b, .b, .s, .i .i64, .i .i64])], 1, 0, 0, 0⟩⟩] (circaref14_Span_l0 n) n (by kernel_rfl) (by kernel_rfl)
def c113l1 (n : Nat) : LP Tryz.prog Tryz.f113.ntmps := loopC (c113E n) [] 1 (sb (acM [] [] Tryz.f113) 1) ⟨[(1, .p 0 0), (4, .s), (5, .s), (9, .i .i64)], [(0, .cells [.b, .b, .s, .i .i64, .i .i64])], 1, 0, 0, 0⟩ [] [⟨.exit 2, ⟨[(1, .p 0 0), (4, .s), (5, .s)], [(0, .cells [.b, .b, .s, .i .i64, .i .i64])], 1, 0, 0, 0⟩⟩] (circaref14_Span_l1 n) n (by kernel_rfl) (by kernel_rfl)
def c113 (n : Nat) : PF Tryz.prog 113 [.ag [.b, .b, .s, .i .i64, .i .i64]] (.tp [.i .i64, .i .i64]) := pureC Tryz.func113 Tryz.call113 (c113E n) [c113l0 n, c113l1 n] [] [] (circaref14_Span n) (by kernel_rfl) (by kernel_rfl)

def c114E (n : Nat) : List (FE Tryz.prog) := [(c158 n).e, (c21 n).e]
def c114l0 (n : Nat) : LP Tryz.prog Tryz.f114.ntmps := loopC (c114E n) [] 0 (sb (acM [] [] Tryz.f114) 0) ⟨[(1, .i .i64), (2, .p 0 0), (5, .i .i64)], [(0, .cells [.b, .b, .s, .i .i64, .i .i64])], 1, 0, 0, 0⟩ [] [⟨.ret, ⟨[(4, .i .i64)], [], 1, 0, 0, 0⟩⟩, ⟨.exit 0, ⟨[(1, .i .i64)], [], 1, 0, 0, 0⟩⟩] (circaref14_In_l0 n) n (by kernel_rfl) (by kernel_rfl)
def c114 (n : Nat) : PF Tryz.prog 114 [.ag [.b, .b, .s, .i .i64, .i .i64], .i .i64] (.i .i64) := pureC Tryz.func114 Tryz.call114 (c114E n) [c114l0 n] [] [] (circaref14_In n) (by kernel_rfl) (by kernel_rfl)

def c160E (n : Nat) : List (FE Tryz.prog) := [(c22 n).e, (c159 n).e]
def c160l0 (n : Nat) : LP Tryz.prog Tryz.f160.ntmps := loopC (c160E n) [] 0 (sb (acM [] [] Tryz.f160) 0) ⟨[(1, .p 0 0), (3, .ws 1), (4, .i .i64)], [(0, .cells [.b, .b, .s, .i .i64, .i .i64, .s, .s, .i .u8, .i .u8, .i .u8]), (1, .rows [.i .i64])], 2, 0, 0, 0⟩ [.nilT 3 1 [.i .i64]] [⟨.exit 0, ⟨[(3, .ws 1)], [(1, .rows [.i .i64])], 2, 0, 0, 0⟩⟩] (circaref16_Months_l0 n) n (by kernel_rfl) (by kernel_rfl)
def c160 (n : Nat) : FF Tryz.prog 160 [.ag [.b, .b, .s, .i .i64, .i .i64, .s, .s, .i .u8, .i .u8, .i .u8]] [] 0 0 [⟨.ws 0, [(0, .rows [.i .i64])], [1], false⟩] := funC Tryz.func160 Tryz.call160 (c160E n) [c160l0 n] [] [] [] (circaref16_Months n) (by kernel_rfl) (by kernel_rfl)

def c57 (n : Nat) : PF Tryz.prog 57 [.i .i64, .i .i64] (.i .i64) := pureC Tryz.func57 Tryz.call57 [] [] [] [] (circaref16_Len n) (by kernel_rfl) (by kernel_rfl)

def c115E (n : Nat) : List (FE Tryz.prog) := [(c160 n).e, (c57 n).e, (c159 n).e]
def c115l1 (n : Nat) : LP Tryz.prog Tryz.f115.ntmps := loopC (c115E n) [] 1 (sb (sb (acM [] [] Tryz.f115) 0).body 1) ⟨[(1, .i .i64), (2, .p 0 0), (5, .ws 2), (6, .ws 1), (7, .i .i64), (8, .i .i64)], [(0, .cells [.b, .b, .s, .i .i64, .i .i64, .s, .s, .i .u8, .i .u8, .i .u8]), (1, .rows [.i .i64]), (2, .rows [.i .i64, .i .i64, .i .i64])], 3, 0, 0, 0⟩ [] [⟨.exit 2, ⟨[(1, .i .i64), (2, .p 0 0), (5, .ws 2), (6, .ws 1), (7, .i .i64)], [(0, .cells [.b, .b, .s, .i .i64, .i .i64, .s, .s, .i .u8, .i .u8, .i .u8]), (1, .rows [.i .i64]), (2, .rows [.i .i64, .i .i64, .i .i64])], 3, 0, 0, 0⟩⟩] (circaref16_year_l1 n) n (by kernel_rfl) (by kernel_rfl)
def c115l0 (n : Nat) : LP Tryz.prog Tryz.f115.ntmps := loopC (c115E n) [c115l1 n] 0 (sb (acM [] [] Tryz.f115) 0) ⟨[(1, .i .i64), (2, .p 0 0), (5, .ws 2), (6, .ws 1), (7, .i .i64)], [(0, .cells [.b, .b, .s, .i .i64, .i .i64, .s, .s, .i .u8, .i .u8, .i .u8]), (1, .rows [.i .i64]), (2, .rows [.i .i64, .i .i64, .i .i64])], 3, 0, 0, 0⟩ [.nilT 5 2 [.i .i64, .i .i64, .i .i64]] [⟨.exit 0, ⟨[(5, .ws 2)], [(2, .rows [.i .i64, .i .i64, .i .i64])], 3, 0, 0, 0⟩⟩] (circaref16_year_l0 n) n (by kernel_rfl) (by kernel_rfl)
def c115 (n : Nat) : FF Tryz.prog 115 [.ag [.b, .b, .s, .i .i64, .i .i64, .s, .s, .i .u8, .i .u8, .i .u8], .i .i64] [] 0 0 [⟨.ws 0, [(0, .rows [.i .i64, .i .i64, .i .i64])], [2], false⟩] := funC Tryz.func115 Tryz.call115 (c115E n) [c115l0 n] [] [] [] (circaref16_year n) (by kernel_rfl) (by kernel_rfl)

def c69E (n : Nat) : List (FE Tryz.prog) := [(c113 n).e, (c114 n).e, (c115 n).e]
def c69l0 (n : Nat) : LP Tryz.prog Tryz.f69.ntmps := loopC (c69E n) [] 0 (sb (acM [] [] Tryz.f69) 0) ⟨[(1, .p 0 0), (4, .i .i64), (5, .i .i64)], [(0, .cells [.b, .b, .s, .i .i64, .i .i64, .s, .s, .i .u8, .i .u8, .i .u8])], 1, 0, 0, 0⟩ [] [⟨.ret, ⟨[(2, .i .i64)], [], 1, 0, 0, 0⟩⟩, ⟨.exit 0, ⟨[], [], 1, 0, 0, 0⟩⟩] (circaref16_some_l0 n) n (by kernel_rfl) (by kernel_rfl)
def c69 (n : Nat) : PF Tryz.prog 69 [.ag [.b, .b, .s, .i .i64, .i .i64, .s, .s, .i .u8, .i .u8, .i .u8]] (.i .i64) := pureC Tryz.func69 Tryz.call69 (c69E n) [c69l0 n] [] [] (circaref16_some n) (by kernel_rfl) (by kernel_rfl)

def c34 (n : Nat) : PF Tryz.prog 34 [.ag [.b, .b, .s, .i .i64, .i .i64, .s, .s, .i .u8, .i .u8, .i .u8]] (.i .i64) := pureC Tryz.func34 Tryz.call34 [(c68 n).e, (c69 n).e] [] [] [] (circaref16_Check n) (by kernel_rfl) (by kernel_rfl)

def c14 (n : Nat) : PF Tryz.prog 14 [.s] (.tp [.ag [.b, .b, .s, .i .i64, .i .i64, .s, .s, .i .u8, .i .u8, .i .u8], .i .i64, .i .i64]) := pureC Tryz.func14 Tryz.call14 [(c33 n).e, (c34 n).e, (c35 n).e] [] [] [] (circaref16_Parse n) (by kernel_rfl) (by kernel_rfl)

def c4 (n : Nat) : PF Tryz.prog 4 [.s] (.ag [.b, .b, .s, .i .i64, .i .i64, .s, .s, .i .u8, .i .u8, .i .u8]) := pureC Tryz.func4 Tryz.call4 [(c14 n).e] [] [] [] (circalaw17_read n) (by kernel_rfl) (by kernel_rfl)

noncomputable def e_lib_18 (_n : Nat) : Ent := atoiF 18 146
theorem ok_lib_18 (n : Nat) : EntOK Tryz.prog (e_lib_18 n) := atoiF_ok Tryz.call18 (fun s n hl h w => (Tryz.strconv_Atoi s n hl h w).mono fun e w' ⟨h1, t, h2⟩ => ⟨h1, h2 ▸ bytesWorld_below _ _ _⟩) (fun s hl h w hg => atoi_err s hl h w hg)
def c18 (n : Nat) : FE Tryz.prog := libF (ok_lib_18 n)

def c104 (n : Nat) : PF Tryz.prog 104 [.i .i64] (.i .i64) := pureC Tryz.func104 Tryz.call104 [] [] [] [] (seasons_Check n) (by kernel_rfl) (by kernel_rfl)
theorem pure_seasons_Check (n : Nat) : ∀ a r, seasons_Check n a = some r → PureOK Tryz.prog 104 (argP [.i .i64] a) (encP (.i .i64) r) := fun a r h => (c104 n).ok a r h

def c56 (n : Nat) : PF Tryz.prog 56 [.ag [.b, .b, .s, .i .i64, .i .i64, .s, .s, .i .u8, .i .u8, .i .u8]] (.tp [.i .i64, .b]) := pureC Tryz.func56 Tryz.call56 [(c18 n), (c104 n).e] [] [] [] (dateforms_Season n) (by kernel_rfl) (by kernel_rfl)

def c199 (_n : Nat) : FE Tryz.prog := libF (indexE_ok Tryz.func199 (by kernel_rfl) (by kernel_rfl) (by kernel_rfl) (by kernel_rfl))

def c187 (n : Nat) : PF Tryz.prog 187 [.s, .i .u8] (.i .i64) := pureC Tryz.func187 Tryz.call187 [(c199 n)] [] [] [] (int_stringslite_IndexByte n) (by kernel_rfl) (by kernel_rfl)

def c178 (n : Nat) : PF Tryz.prog 178 [.s, .i .u8] (.i .i64) := pureC Tryz.func178 Tryz.call178 [(c187 n).e] [] [] [] (strings_IndexByte n) (by kernel_rfl) (by kernel_rfl)

def c191 (n : Nat) : PF Tryz.prog 191 [.i .i32] (.b) := pureC Tryz.func191 Tryz.call191 [] [] [] [] (unicode_utf8_ValidRune n) (by kernel_rfl) (by kernel_rfl)

def c166E (n : Nat) : List (FE Tryz.prog) := [(c178 n).e, (c191 n).e]
def c166l0 (n : Nat) : LP Tryz.prog Tryz.f166.ntmps := loopC (c166E n) [] 0 (sb (acM [] [] Tryz.f166) 0) ⟨[(175, .p 0 0)], [(0, .iter)], 1, 0, 0, 0⟩ [] [⟨.ret, ⟨[(4, .i .i64)], [], 1, 0, 0, 0⟩⟩, ⟨.exit 9, ⟨[], [], 1, 0, 0, 0⟩⟩] (strings_IndexRune_l0 n) n (by kernel_rfl) (by kernel_rfl)
def c166l2 (n : Nat) : LP Tryz.prog Tryz.f166.ntmps := loopC (c166E n) [] 2 (sb (sb (acM [] [] Tryz.f166) 1).body 2) ⟨[(0, .s), (7, .s), (8, .i .i64), (9, .i .i64), (12, .i .i64)], [], 128, 0, 0, 0⟩ [] [⟨.exit 3, ⟨[(8, .i .i64), (9, .i .i64)], [], 128, 0, 0, 0⟩⟩] (strings_IndexRune_l2 n) n (by kernel_rfl) (by kernel_rfl)
def c166l2a (n : Nat) : LP Tryz.prog Tryz.f166.ntmps := loopC (c166E n) [] 2 (sb (sb (acM [] [] Tryz.f166) 1).body 2) ⟨[(0, .s), (7, .s), (8, .i .i64), (9, .i .i64), (12, .i .i64)], [], 56, 0, 0, 0⟩ [] [⟨.exit 3, ⟨[(8, .i .i64), (9, .i .i64)], [], 56, 0, 0, 0⟩⟩] (strings_IndexRune_l2a n) n (by kernel_rfl) (by kernel_rfl)
def c166l1 (n : Nat) : LP Tryz.prog Tryz.f166.ntmps := loopC (c166E n) [altL (c166l2 n) (c166l2a n) rfl] 1 (sb (acM [] [] Tryz.f166) 1) ⟨[(0, .s), (7, .s), (8, .i .i64), (9, .i .i64)], [], 0, 0, 0, 0⟩ [] [⟨.ret, ⟨[(4, .i .i64)], [], 0, 0, 0, 0⟩⟩, ⟨.exit 1, ⟨[], [], 0, 0, 0, 0⟩⟩] (strings_IndexRune_l1 n) n (by kernel_rfl) (by kernel_rfl)
def c166 (n : Nat) : PF Tryz.prog 166 [.s, .i .i32] (.i .i64) := pureC Tryz.func166 Tryz.call166 (c166E n) [c166l0 n, c166l1 n, noL 3 (sb (acM [] [] Tryz.f166) 3)] [] [] (strings_IndexRune n) (by kernel_rfl) (by kernel_rfl)

def c126 (n : Nat) : PF Tryz.prog 126 [.s, .i .i32] (.b) := pureC Tryz.func126 Tryz.call126 [(c166 n).e] [] [] [] (strings_ContainsRune n) (by kernel_rfl) (by kernel_rfl)

def c125 (n : Nat) : FF Tryz.prog 125 [.i .i32, .p 0 0] [.cells [.s]] 1 1 [⟨.b, [], [], false⟩] := funC Tryz.func125 Tryz.call125 [(c126 n).e] [] [] [] [0] (yearforms_only_1 n) (by kernel_rfl) (by kernel_rfl)

def c165E (n : Nat) : List (FE Tryz.prog) := [(c125 n).e]
def c165l0 (n : Nat) : LP Tryz.prog Tryz.f165.ntmps := loopC (c165E n) [] 0 (sb (acM [] [] Tryz.f165) 0) ⟨[(1, .fn 125 [.p 0 0]), (2, .b), (10, .p 1 0)], [(0, .cells [.s]), (1, .iter)], 2, 1, 1, 1⟩ [] [⟨.ret, ⟨[(6, .i .i64)], [], 2, 1, 1, 1⟩⟩, ⟨.exit 0, ⟨[], [], 2, 1, 1, 1⟩⟩] (strings_indexFunc_l0 n) n (by kernel_rfl) (by kernel_rfl)
def c165 (n : Nat) : FF Tryz.prog 165 [.s, .fn 125 [.p 0 0], .b] [.cells [.s]] 1 1 [⟨.i .i64, [], [], false⟩] := funC Tryz.func165 Tryz.call165 (c165E n) [c165l0 n] [] [] [0] (strings_indexFunc n) (by kernel_rfl) (by kernel_rfl)

def c124 (n : Nat) : FF Tryz.prog 124 [.s, .fn 125 [.p 0 0]] [.cells [.s]] 1 1 [⟨.i .i64, [], [], false⟩] := funC Tryz.func124 Tryz.call124 [(c165 n).e] [] [] [] [0] (strings_IndexFunc n) (by kernel_rfl) (by kernel_rfl)

def c85 (n : Nat) : PF Tryz.prog 85 [.s, .s] (.b) := pureC Tryz.func85 Tryz.call85 [(c124 n).e] [] [] [] (yearforms_only n) (by kernel_rfl) (by kernel_rfl)

def c128l0 (n : Nat) : LP Tryz.prog Tryz.f128.ntmps := loopC [] [] 0 (sb (acM [] [] Tryz.f128) 0) ⟨[(0, .s), (1, .i .u8)], [], 0, 0, 0, 0⟩ [] [⟨.exit 0, ⟨[(0, .s)], [], 0, 0, 0, 0⟩⟩] (strings_trimRightByte_l0 n) n (by kernel_rfl) (by kernel_rfl)
def c128 (n : Nat) : PF Tryz.prog 128 [.s, .i .u8] (.s) := pureC Tryz.func128 Tryz.call128 [] [c128l0 n] [] [] (strings_trimRightByte n) (by kernel_rfl) (by kernel_rfl)

def c127l0 (n : Nat) : LP Tryz.prog Tryz.f127.ntmps := loopC [] [] 0 (sb (acM [] [] Tryz.f127) 0) ⟨[(0, .s), (1, .i .u8)], [], 0, 0, 0, 0⟩ [] [⟨.exit 0, ⟨[(0, .s)], [], 0, 0, 0, 0⟩⟩] (strings_trimLeftByte_l0 n) n (by kernel_rfl) (by kernel_rfl)
def c127 (n : Nat) : PF Tryz.prog 127 [.s, .i .u8] (.s) := pureC Tryz.func127 Tryz.call127 [] [c127l0 n] [] [] (strings_trimLeftByte n) (by kernel_rfl) (by kernel_rfl)

def c86 (n : Nat) : PF Tryz.prog 86 [.s, .sk [48]] (.s) := pureC Tryz.func86 Tryz.call86 [(c128 n).e, (c127 n).e] [] [] [] (strings_Trim n) (by kernel_rfl) (by kernel_rfl)

def c164 (n : Nat) : PF Tryz.prog 164 [.s, .sk [88]] (.i .i64) := pureC Tryz.func164 Tryz.call164 [(c187 n).e] [noL 0 (sb (acM [] [] Tryz.f164) 0)] [] [] (int_stringslite_Index n) (by kernel_rfl) (by kernel_rfl)

def c123 (n : Nat) : PF Tryz.prog 123 [.s, .sk [88]] (.i .i64) := pureC Tryz.func123 Tryz.call123 [(c164 n).e] [] [] [] (strings_Index n) (by kernel_rfl) (by kernel_rfl)

def c84 (n : Nat) : PF Tryz.prog 84 [.s, .sk [88]] (.b) := pureC Tryz.func84 Tryz.call84 [(c123 n).e] [] [] [] (strings_Contains n) (by kernel_rfl) (by kernel_rfl)

def c41 (n : Nat) : PF Tryz.prog 41 [.ag [.b, .b, .s, .i .i64, .i .i64]] (.b) := pureC Tryz.func41 Tryz.call41 [(c84 n).e] [] [] [] (yearforms_Masked n) (by kernel_rfl) (by kernel_rfl)

noncomputable def e_lib_88 (_n : Nat) : Ent := parseE 88
theorem ok_lib_88 (n : Nat) : EntOK Tryz.prog (e_lib_88 n) := parseE_ok Tryz.call88 fun s h v hv w => (Tryz.strconv_ParseInt_10_at64_ok s h v hv w).mono fun e w' ⟨h1, h2⟩ => ⟨h1, h2.elim (fun h => h ▸ RowKit.Below.refl _ _) (fun ⟨t, h⟩ => h ▸ bytesWorld_below _ _ _)⟩
def c88 (n : Nat) : FE Tryz.prog := libF (ok_lib_88 n)

def c89l0 (n : Nat) : LP Tryz.prog Tryz.f89.ntmps := loopC [] [] 0 (sb (acM [] [] Tryz.f89) 0) ⟨[(4, .i .i64), (9, .i .i64), (10, .i .i64)], [], 0, 0, 0, 0⟩ [] [⟨.exit 0, ⟨[(4, .i .i64)], [], 0, 0, 0, 0⟩⟩] (ints_Pow10_l0 n) n (by kernel_rfl) (by kernel_rfl)
def c89 (n : Nat) : PF Tryz.prog 89 [.i .i64] (.tp [.i .i64, .i .i64]) := pureC Tryz.func89 Tryz.call89 [] [c89l0 n] [] [] (ints_Pow10 n) (by kernel_rfl) (by kernel_rfl)

def c135 (n : Nat) : PF Tryz.prog 135 [.i .i64] (.i .u64) := pureC Tryz.func135 Tryz.call135 [] [] [] [] (ints_size n) (by kernel_rfl) (by kernel_rfl)

def c134 (n : Nat) : PF Tryz.prog 134 [.i .u64, .i .u64] (.tp [.i .u64, .i .u64]) := pureC Tryz.func134 Tryz.call134 [] [] [] [] (math_bits_Mul64 n) (by kernel_rfl) (by kernel_rfl)

def c136 (n : Nat) : PF Tryz.prog 136 [.i .u64, .b] (.tp [.i .i64, .i .i64]) := pureC Tryz.func136 Tryz.call136 [] [] [] [] (ints_signed n) (by kernel_rfl) (by kernel_rfl)

def c90 (n : Nat) : PF Tryz.prog 90 [.i .i64, .i .i64] (.tp [.i .i64, .i .i64]) := pureC Tryz.func90 Tryz.call90 [(c135 n).e, (c134 n).e, (c136 n).e] [] [] [] (ints_Mul n) (by kernel_rfl) (by kernel_rfl)

def c42 (n : Nat) : PF Tryz.prog 42 [.ag [.b, .b, .s, .i .i64, .i .i64]] (.tp [.i .i64, .i .i64]) := pureC Tryz.func42 Tryz.call42 [(c88 n), (c89 n).e, (c90 n).e] [] [] [] (yearforms_magnitude n) (by kernel_rfl) (by kernel_rfl)

def c87 (n : Nat) : PF Tryz.prog 87 [.ag [.b, .b, .s, .i .i64, .i .i64]] (.b) := pureC Tryz.func87 Tryz.call87 [(c85 n).e, (c42 n).e] [] [] [] (yearforms_checkLong n) (by kernel_rfl) (by kernel_rfl)

def c40 (n : Nat) : PF Tryz.prog 40 [.ag [.b, .b, .s, .i .i64, .i .i64]] (.i .i64) := pureC Tryz.func40 Tryz.call40 [(c85 n).e, (c86 n).e, (c41 n).e, (c87 n).e] [] [] [] (yearforms_Check n) (by kernel_rfl) (by kernel_rfl)
theorem pure_yearforms_Check (n : Nat) : ∀ a r, yearforms_Check n a.1 a.2.1 a.2.2.1 a.2.2.2.1 a.2.2.2.2 = some r → PureOK Tryz.prog 40 (argP [.ag [.b, .b, .s, .i .i64, .i .i64]] a) (encP (.i .i64) r) := fun a r h => (c40 n).ok a r h

def c17 (n : Nat) : PF Tryz.prog 17 [.ag [.b, .b, .s, .i .i64, .i .i64]] (.tp [.i .i64, .i .i64]) := pureC Tryz.func17 Tryz.call17 [(c40 n).e, (c41 n).e, (c42 n).e] [] [] [] (yearforms_Value n) (by kernel_rfl) (by kernel_rfl)

noncomputable def un_lib_96 (l : List V) : Option (Int) := match l with
  | [.i .i64 a0] => some (a0)
  | _ => none
noncomputable def e_lib_96 (n : Nat) : Ent := pureE 96 un_lib_96 (fun a => seasons_Months n a) (fun r => .tp [.i .i64 r.1, .i .i64 r.2.1, .i .i64 r.2.2])
theorem ok_lib_96 (n : Nat) : EntOK Tryz.prog (e_lib_96 n) := pureE_ok (arg := fun a => [.i .i64 a]) Tryz.call96 (fun l a h => by
  unfold un_lib_96 at h
  split at h
  · cases h; rfl
  · cases h) (fun a => rfl) (fun a r h => hand_seasons_Months n (fun x r h => pure_seasons_Check n x r h) a r h)
def c96 (n : Nat) : FE Tryz.prog := libF (ok_lib_96 n)

def c98 (n : Nat) : PF Tryz.prog 98 [.i .i64] (.i .i64) := pureC Tryz.func98 Tryz.call98 [] [] [] [] (years_Check n) (by kernel_rfl) (by kernel_rfl)

def c101 (n : Nat) : PF Tryz.prog 101 [.i .i64, .i .i64] (.i .i64) := pureC Tryz.func101 Tryz.call101 [(c98 n).e] [] [] [] (months_Check n) (by kernel_rfl) (by kernel_rfl)

def c174 (n : Nat) : PF Tryz.prog 174 [.i .i64, .i .i64] (.tp [.i .i64, .i .i64]) := pureC Tryz.func174 Tryz.call174 [] [] [] [] (ints_Sub n) (by kernel_rfl) (by kernel_rfl)

def c142 (n : Nat) : PF Tryz.prog 142 [.i .i64, .i .i64] (.tp [.i .i64, .i .i64]) := pureC Tryz.func142 Tryz.call142 [(c174 n).e] [] [] [] (ints_Div n) (by kernel_rfl) (by kernel_rfl)
theorem pure_ints_Div (n : Nat) : ∀ a r, ints_Div n a.1 a.2 = some r → PureOK Tryz.prog 142 (argP [.i .i64, .i .i64] a) (encP (.tp [.i .i64, .i .i64]) r) := fun a r h => (c142 n).ok a r h

noncomputable def un_lib_144 (l : List V) : Option (Int) := match l with
  | [.i .i64 a0] => some (a0)
  | _ => none
noncomputable def e_lib_144 (n : Nat) : Ent := pureE 144 un_lib_144 (fun a => years_before n a) (fun r => .i .i64 r)
theorem ok_lib_144 (n : Nat) : EntOK Tryz.prog (e_lib_144 n) := pureE_ok (arg := fun a => [.i .i64 a]) Tryz.call144 (fun l a h => by
  unfold un_lib_144 at h
  split at h
  · cases h; rfl
  · cases h) (fun a => rfl) (fun a r h => hand_years_before n (fun x y r h => pure_ints_Div n (x, y) r h) a r h)
def c144 (n : Nat) : FE Tryz.prog := libF (ok_lib_144 n)

def c99 (n : Nat) : PF Tryz.prog 99 [.i .i64] (.i .i64) := pureC Tryz.func99 Tryz.call99 [(c144 n)] [] [] [] (years_start n) (by kernel_rfl) (by kernel_rfl)

def c48 (n : Nat) : PF Tryz.prog 48 [.i .i64] (.tp [.i .i64, .i .i64]) := pureC Tryz.func48 Tryz.call48 [(c98 n).e, (c99 n).e] [] [] [] (years_Start n) (by kernel_rfl) (by kernel_rfl)

def c145 (n : Nat) : PF Tryz.prog 145 [.i .i64] (.tp [.b, .i .i64]) := pureC Tryz.func145 Tryz.call145 [(c98 n).e, (c144 n)] [] [] [] (years_Leap n) (by kernel_rfl) (by kernel_rfl)
theorem pure_years_Leap (n : Nat) : ∀ a r, years_Leap n a = some r → PureOK Tryz.prog 145 (argP [.i .i64] a) (encP (.tp [.b, .i .i64]) r) := fun a r h => (c145 n).ok a r h

noncomputable def un_lib_102 (l : List V) : Option (Int × Int) := match l with
  | [.i .i64 a0, .i .i64 a1] => some (a0, a1)
  | _ => none
noncomputable def e_lib_102 (n : Nat) : Ent := pureE 102 un_lib_102 (fun a => months_length n a.1 a.2) (fun r => .i .i64 r)
theorem ok_lib_102 (n : Nat) : EntOK Tryz.prog (e_lib_102 n) := pureE_ok (arg := fun a => [.i .i64 a.1, .i .i64 a.2]) Tryz.call102 (fun l a h => by
  unfold un_lib_102 at h
  split at h
  · cases h; rfl
  · cases h) (fun a => rfl) (fun a r h => hand_months_length n (fun x r h => pure_years_Leap n x r h) a.1 a.2 r h)
def c102 (n : Nat) : FE Tryz.prog := libF (ok_lib_102 n)

def c52E (n : Nat) : List (FE Tryz.prog) := [(c101 n).e, (c48 n).e, (c102 n)]
def c52l0 (n : Nat) : LP Tryz.prog Tryz.f52.ntmps := loopC (c52E n) [] 0 (sb (acM [] [] Tryz.f52) 0) ⟨[(0, .i .i64), (7, .i .i64), (22, .i .i64), (23, .i .i64)], [], 0, 0, 0, 0⟩ [] [⟨.exit 0, ⟨[(7, .i .i64)], [], 0, 0, 0, 0⟩⟩] (months_Start_l0 n) n (by kernel_rfl) (by kernel_rfl)
def c52 (n : Nat) : PF Tryz.prog 52 [.i .i64, .i .i64] (.tp [.i .i64, .i .i64]) := pureC Tryz.func52 Tryz.call52 (c52E n) [c52l0 n] [] [] (months_Start n) (by kernel_rfl) (by kernel_rfl)

noncomputable def un_lib_141 (l : List V) : Option (Int × Int) := match l with
  | [.i .i64 a0, .i .i64 a1] => some (a0, a1)
  | _ => none
noncomputable def e_lib_141 (n : Nat) : Ent := pureE 141 un_lib_141 (fun a => ints_Add n a.1 a.2) (fun r => .tp [.i .i64 r.1, .i .i64 r.2])
theorem ok_lib_141 (n : Nat) : EntOK Tryz.prog (e_lib_141 n) := pureE_ok (arg := fun a => [.i .i64 a.1, .i .i64 a.2]) Tryz.call141 (fun l a h => by
  unfold un_lib_141 at h
  split at h
  · cases h; rfl
  · cases h) (fun a => rfl) (fun a r h => hand_ints_Add n a.1 a.2 r h)
def c141 (n : Nat) : FE Tryz.prog := libF (ok_lib_141 n)

def c143 (n : Nat) : PF Tryz.prog 143 [.i .i64, .i .i64] (.tp [.i .i64, .i .i64]) := pureC Tryz.func143 Tryz.call143 [] [] [] [] (ints_Mod n) (by kernel_rfl) (by kernel_rfl)

def c97 (n : Nat) : PF Tryz.prog 97 [.i .i64, .i .i64, .i .i64] (.tp [.i .i64, .i .i64, .i .i64]) := pureC Tryz.func97 Tryz.call97 [(c101 n).e, (c141 n), (c142 n).e, (c143 n).e, (c98 n).e] [] [] [] (months_Add n) (by kernel_rfl) (by kernel_rfl)

def c53 (n : Nat) : PF Tryz.prog 53 [.i .i64, .i .i64] (.tp [.i .i64, .i .i64]) := pureC Tryz.func53 Tryz.call53 [(c52 n).e, (c102 n)] [] [] [] (months_End n) (by kernel_rfl) (by kernel_rfl)

def c46 (n : Nat) : PF Tryz.prog 46 [.i .i64, .i .i64] (.tp [.ag [.i .i8, .i .i64, .i .i8, .i .i64], .i .i64]) := pureC Tryz.func46 Tryz.call46 [(c96 n), (c52 n).e, (c97 n).e, (c53 n).e] [] [] [] (seasons_Run n) (by kernel_rfl) (by kernel_rfl)

def c74 (n : Nat) : PF Tryz.prog 74 [.ag [.b, .b, .s, .i .i64, .i .i64, .s, .s, .i .u8, .i .u8, .i .u8]] (.b) := pureC Tryz.func74 Tryz.call74 [(c40 n).e, (c56 n).e, (c41 n).e, (c17 n).e, (c46 n).e] [] [] [] (dateforms_checkYear n) (by kernel_rfl) (by kernel_rfl)

def c75l0 (n : Nat) : LP Tryz.prog Tryz.f75.ntmps := loopC [] [] 0 (sb (acM [] [] Tryz.f75) 0) ⟨[(0, .s), (1, .i .i64), (5, .i .i64)], [], 0, 0, 0, 0⟩ [] [⟨.ret, ⟨[(4, .b)], [], 0, 0, 0, 0⟩⟩, ⟨.exit 0, ⟨[], [], 0, 0, 0, 0⟩⟩] (dateforms_agrees_l0 n) n (by kernel_rfl) (by kernel_rfl)
def c75 (n : Nat) : PF Tryz.prog 75 [.s, .i .i64] (.b) := pureC Tryz.func75 Tryz.call75 [] [c75l0 n] [] [] (dateforms_agrees n) (by kernel_rfl) (by kernel_rfl)

def c77l0 (n : Nat) : LP Tryz.prog Tryz.f77.ntmps := loopC [] [] 0 (sb (acM [] [] Tryz.f77) 0) ⟨[(3, .i .i64), (10, .ag [.s, .s]), (11, .i .i64)], [], 1, 0, 0, 0⟩ [] [⟨.exit 0, ⟨[(3, .i .i64)], [], 1, 0, 0, 0⟩⟩] (dateforms_Components_l0 n) n (by kernel_rfl) (by kernel_rfl)
def c77 (n : Nat) : PF Tryz.prog 77 [.ag [.b, .b, .s, .i .i64, .i .i64, .s, .s, .i .u8, .i .u8, .i .u8]] (.i .i64) := pureC Tryz.func77 Tryz.call77 [] [c77l0 n] [] [] (dateforms_Components n) (by kernel_rfl) (by kernel_rfl)

def c119 (n : Nat) : PF Tryz.prog 119 [.i .u8] (.i .i64) := pureC Tryz.func119 Tryz.call119 [] [] [] [] (marks_Check n) (by kernel_rfl) (by kernel_rfl)

def c76E (n : Nat) : List (FE Tryz.prog) := [(c119 n).e]
def c76l0 (n : Nat) : LP Tryz.prog Tryz.f76.ntmps := loopC (c76E n) [] 0 (sb (acM [] [] Tryz.f76) 0) ⟨[(1, .i .i64), (13, .ai .u8 3), (14, .i .i64)], [], 1, 0, 0, 0⟩ [] [⟨.ret, ⟨[(4, .i .i64)], [], 1, 0, 0, 0⟩⟩, ⟨.exit 0, ⟨[], [], 1, 0, 0, 0⟩⟩] (marks_All_l0 n) n (by kernel_rfl) (by kernel_rfl)
def c76 (n : Nat) : PF Tryz.prog 76 [.ai .u8 3, .i .i64] (.i .i64) := pureC Tryz.func76 Tryz.call76 (c76E n) [c76l0 n] [] [] (marks_All n) (by kernel_rfl) (by kernel_rfl)

def c36 (n : Nat) : PF Tryz.prog 36 [.ag [.b, .b, .s, .i .i64, .i .i64, .s, .s, .i .u8, .i .u8, .i .u8]] (.i .i64) := pureC Tryz.func36 Tryz.call36 [(c56 n).e, (c74 n).e, (c75 n).e, (c77 n).e, (c76 n).e] [] [] [] (dateforms_Check n) (by kernel_rfl) (by kernel_rfl)

def c120 (n : Nat) : PF Tryz.prog 120 [.s, .i .i64] (.b) := pureC Tryz.func120 Tryz.call120 [] [] [] [] (fillings_agrees n) (by kernel_rfl) (by kernel_rfl)

def c78E (n : Nat) : List (FE Tryz.prog) := [(c120 n).e]
def c78l0 (n : Nat) : LP Tryz.prog Tryz.f78.ntmps := loopC (c78E n) [] 0 (sb (acM [] [] Tryz.f78) 0) ⟨[(0, .s), (5, .ws 0), (7, .i .i64), (8, .i .i64)], [(0, .rows [.i .i64])], 1, 0, 0, 0⟩ [.nilT 5 0 [.i .i64]] [⟨.exit 0, ⟨[(5, .ws 0)], [(0, .rows [.i .i64])], 1, 0, 0, 0⟩⟩] (fillings_fits_l0 n) n (by kernel_rfl) (by kernel_rfl)
def c78 (n : Nat) : FF Tryz.prog 78 [.s, .i .i64] [] 0 0 [⟨.ws 0, [(0, .rows [.i .i64])], [0], false⟩] := funC Tryz.func78 Tryz.call78 (c78E n) [c78l0 n] [] [] [] (fillings_fits n) (by kernel_rfl) (by kernel_rfl)

def c37 (n : Nat) : FF Tryz.prog 37 [.ag [.b, .b, .s, .i .i64, .i .i64, .s, .s, .i .u8, .i .u8, .i .u8]] [] 0 0 [⟨.ag [.b, .b, .s, .i .i64, .i .i64, .s, .s, .i .u8, .i .u8, .i .u8, .ws 0, .ws 1], [(0, .rows [.i .i64]), (1, .rows [.i .i64])], [5, 6], false⟩, ⟨.ag [.b, .b, .s, .i .i64, .i .i64, .s, .s, .i .u8, .i .u8, .i .u8, .ws 0, .ws 1], [(0, .rows [.i .i64]), (1, .rows [.i .i64])], [5, 3], false⟩, ⟨.ag [.b, .b, .s, .i .i64, .i .i64, .s, .s, .i .u8, .i .u8, .i .u8, .ws 0, .ws 1], [(0, .rows [.i .i64]), (1, .rows [.i .i64])], [2, 5], false⟩, ⟨.ag [.b, .b, .s, .i .i64, .i .i64, .s, .s, .i .u8, .i .u8, .i .u8, .ws 0, .ws 1], [(0, .rows [.i .i64]), (1, .rows [.i .i64])], [2, 3], false⟩] := funC Tryz.func37 Tryz.call37 [(c56 n).e, (c78 n).e] [] [] [] [] (fillings_of n) (by kernel_rfl) (by kernel_rfl)

def c79 (n : Nat) : FF Tryz.prog 79 [.ws 0] [.rows [.i .i64]] 1 1 [⟨.ws 1, [(1, .rows [.i .i64])], [1], false⟩] := funC Tryz.func79 Tryz.call79 [] [] [] [] [0] (slices_Clone_int_int n) (by kernel_rfl) (by kernel_rfl)

def c80l0 (n : Nat) : LP Tryz.prog Tryz.f80.ntmps := loopC [] [] 0 (sb (acM [] [] Tryz.f80) 0) ⟨[(0, .ws 0), (2, .i .i64), (3, .i .i64)], [(0, .rows [.i .i64])], 1, 1, 0, 1⟩ [] [⟨.exit 0, ⟨[], [(0, .rows [.i .i64])], 1, 1, 0, 1⟩⟩] (slices_Reverse_int_int_l0 n) n (by kernel_rfl) (by kernel_rfl)
def c80 (n : Nat) : FF Tryz.prog 80 [.ws 0] [.rows [.i .i64]] 0 1 [⟨.tp [], [(0, .rows [.i .i64])], [], false⟩] := funC Tryz.func80 Tryz.call80 [] [c80l0 n] [] [] [0] (slices_Reverse_int_int n) (by kernel_rfl) (by kernel_rfl)

def c182l0 (n : Nat) : LP Tryz.prog Tryz.f182.ntmps := loopC [] [] 0 (sb (acM [] [] Tryz.f182) 0) ⟨[(0, .s), (9, .p 0 0)], [(0, .iter)], 1, 0, 0, 0⟩ [] [⟨.ret, ⟨[(2, .i .i64)], [], 1, 0, 0, 0⟩⟩, ⟨.exit 0, ⟨[(0, .s)], [], 1, 0, 0, 0⟩⟩] (masks_Check_l0 n) n (by kernel_rfl) (by kernel_rfl)
def c182 (n : Nat) : PF Tryz.prog 182 [.s] (.i .i64) := pureC Tryz.func182 Tryz.call182 [] [c182l0 n] [] [] (masks_Check n) (by kernel_rfl) (by kernel_rfl)

def c195l0 (n : Nat) : LP Tryz.prog Tryz.f195.ntmps := loopC [] [] 0 (sb (acM [] [] Tryz.f195) 0) ⟨[(1, .i .u8), (5, .i .i64), (9, .ws 0), (10, .i .i64), (11, .i .i64)], [(0, .rows [.i .u8])], 1, 0, 0, 0⟩ [] [⟨.exit 0, ⟨[(5, .i .i64)], [], 1, 0, 0, 0⟩⟩] (masks_filled_l0 n) n (by kernel_rfl) (by kernel_rfl)
def c195 (n : Nat) : PF Tryz.prog 195 [.s, .i .u8] (.i .i64) := pureC Tryz.func195 Tryz.call195 [] [c195l0 n] [] [] (masks_filled n) (by kernel_rfl) (by kernel_rfl)

def c183 (n : Nat) : PF Tryz.prog 183 [.s] (.tp [.i .i64, .i .i64]) := pureC Tryz.func183 Tryz.call183 [(c182 n).e, (c195 n).e] [] [] [] (masks_Least n) (by kernel_rfl) (by kernel_rfl)

def c196 (n : Nat) : PF Tryz.prog 196 [.i .i64] (.i .i64) := pureC Tryz.func196 Tryz.call196 [(c89 n).e] [] [] [] (masks_power n) (by kernel_rfl) (by kernel_rfl)

def c184 (n : Nat) : PF Tryz.prog 184 [.s, .i .i64] (.b) := pureC Tryz.func184 Tryz.call184 [(c196 n).e] [] [] [] (masks_within n) (by kernel_rfl) (by kernel_rfl)

def c197l0 (n : Nat) : LP Tryz.prog Tryz.f197.ntmps := loopC [] [] 0 (sb (acM [] [] Tryz.f197) 0) ⟨[(1, .i .i64), (4, .p 0 0), (5, .i .i64)], [(0, .ints .u8 18)], 1, 0, 0, 0⟩ [] [⟨.exit 0, ⟨[(4, .p 0 0)], [(0, .ints .u8 18)], 1, 0, 0, 0⟩⟩] (masks_split_l0 n) n (by kernel_rfl) (by kernel_rfl)
def c197 (n : Nat) : PF Tryz.prog 197 [.s, .i .i64] (.ai .u8 18) := pureC Tryz.func197 Tryz.call197 [] [c197l0 n] [] [] (masks_split n) (by kernel_rfl) (by kernel_rfl)

def c198 (n : Nat) : PF Tryz.prog 198 [.s, .ai .u8 18] (.i .i64) := pureC Tryz.func198 Tryz.call198 [(c195 n).e] [] [] [] (masks_value n) (by kernel_rfl) (by kernel_rfl)

def c185E (n : Nat) : List (FE Tryz.prog) := [(c197 n).e, (c198 n).e]
def c185l0 (n : Nat) : LP Tryz.prog Tryz.f185.ntmps := loopC (c185E n) [] 0 (sb (acM [] [] Tryz.f185) 0) ⟨[(0, .s), (1, .i .i64), (2, .b), (8, .i .u8), (9, .i .u8), (10, .p 0 0), (11, .p 1 0), (12, .i .i64)], [(0, .ints .u8 18), (1, .ints .u8 18)], 2, 0, 0, 0⟩ [] [⟨.exit 0, ⟨[(0, .s), (1, .i .i64), (2, .b), (8, .i .u8), (9, .i .u8), (10, .p 0 0), (11, .p 1 0), (12, .i .i64)], [(0, .ints .u8 18), (1, .ints .u8 18)], 2, 0, 0, 0⟩⟩] (masks_beyond_l0 n) n (by kernel_rfl) (by kernel_rfl)
def c185l1 (n : Nat) : LP Tryz.prog Tryz.f185.ntmps := loopC (c185E n) [] 1 (sb (acM [] [] Tryz.f185) 1) ⟨[(0, .s), (2, .b), (8, .i .u8), (9, .i .u8), (10, .p 0 0), (11, .p 1 0), (12, .i .i64)], [(0, .ints .u8 18), (1, .ints .u8 18)], 74, 0, 0, 0⟩ [] [⟨.ret, ⟨[(6, .i .i64), (7, .i .i64)], [], 74, 0, 0, 0⟩⟩, ⟨.exit 2, ⟨[(0, .s), (2, .b), (8, .i .u8), (11, .p 1 0), (12, .i .i64)], [(1, .ints .u8 18)], 74, 0, 0, 0⟩⟩] (masks_beyond_l1 n) n (by kernel_rfl) (by kernel_rfl)
def c185l2 (n : Nat) : LP Tryz.prog Tryz.f185.ntmps := loopC (c185E n) [] 2 (sb (acM [] [] Tryz.f185) 2) ⟨[(0, .s), (8, .i .u8), (11, .p 1 0), (12, .i .i64)], [(1, .ints .u8 18)], 74, 0, 0, 0⟩ [] [⟨.exit 5, ⟨[(0, .s), (11, .p 1 0)], [(1, .ints .u8 18)], 74, 0, 0, 0⟩⟩] (masks_beyond_l2 n) n (by kernel_rfl) (by kernel_rfl)
def c185 (n : Nat) : PF Tryz.prog 185 [.s, .i .i64, .b] (.tp [.i .i64, .i .i64]) := pureC Tryz.func185 Tryz.call185 (c185E n) [c185l0 n, c185l1 n, c185l2 n] [] [] (masks_beyond n) (by kernel_rfl) (by kernel_rfl)

def c162 (n : Nat) : PF Tryz.prog 162 [.s, .i .i64] (.tp [.i .i64, .i .i64]) := pureC Tryz.func162 Tryz.call162 [(c182 n).e, (c183 n).e, (c184 n).e, (c185 n).e] [] [] [] (masks_Next n) (by kernel_rfl) (by kernel_rfl)

def c186 (n : Nat) : PF Tryz.prog 186 [.s] (.tp [.i .i64, .i .i64]) := pureC Tryz.func186 Tryz.call186 [(c182 n).e, (c195 n).e] [] [] [] (masks_Greatest n) (by kernel_rfl) (by kernel_rfl)

def c163 (n : Nat) : PF Tryz.prog 163 [.s, .i .i64] (.tp [.i .i64, .i .i64]) := pureC Tryz.func163 Tryz.call163 [(c182 n).e, (c184 n).e, (c186 n).e, (c185 n).e] [] [] [] (masks_Prev n) (by kernel_rfl) (by kernel_rfl)

def c121 (n : Nat) : PF Tryz.prog 121 [.s, .i .i64, .b, .i .i64] (.tp [.i .i64, .b]) := pureC Tryz.func121 Tryz.call121 [(c162 n).e, (c163 n).e] [] [] [] (fillings_masked n) (by kernel_rfl) (by kernel_rfl)

def c82 (n : Nat) : FF Tryz.prog 82 [.ag [.b, .b, .s, .i .i64, .i .i64, .s, .s, .i .u8, .i .u8, .i .u8, .ws 0, .ws 1], .i .i64, .b] [.rows [.i .i64], .rows [.i .i64]] 2 2 [⟨.tp [.i .i64, .b], [], [], false⟩] := funC Tryz.func82 Tryz.call82 [(c41 n).e, (c17 n).e, (c121 n).e] [] [] [] [0, 1] (fillings_form_year n) (by kernel_rfl) (by kernel_rfl)

def c81 (n : Nat) : FF Tryz.prog 81 [.i .i64, .i .i64, .p 0 0] [.cells [.b]] 1 1 [⟨.b, [], [], false⟩] := funC Tryz.func81 Tryz.call81 [] [] [] [] [0] (fillings_form_seek_1 n) (by kernel_rfl) (by kernel_rfl)

def c122 (n : Nat) : PF Tryz.prog 122 [.i .i64, .i .i64] (.tp [.i .i64, .i .i64]) := pureC Tryz.func122 Tryz.call122 [(c101 n).e, (c102 n)] [] [] [] (months_Len n) (by kernel_rfl) (by kernel_rfl)

def c83 (n : Nat) : FF Tryz.prog 83 [.ag [.b, .b, .s, .i .i64, .i .i64, .s, .s, .i .u8, .i .u8, .i .u8, .ws 0, .ws 1], .i .i64, .i .i64] [.rows [.i .i64], .rows [.i .i64]] 2 2 [⟨.i .i64, [], [], false⟩] := funC Tryz.func83 Tryz.call83 [(c122 n).e] [] [] [] [0, 1] (fillings_form_length n) (by kernel_rfl) (by kernel_rfl)

def c38E (n : Nat) : List (FE Tryz.prog) := [(c79 n).e, (c80 n).e, (c82 n).e, (c81 n).e, (c83 n).e]
def c38j3 (n : Nat) : LP Tryz.prog Tryz.f38.ntmps := joinC (c38E n) [] 1003 (sb (acM [] [3, 17, 20, 23, 30] Tryz.f38) 1003) ⟨[(3, .p 2 0), (4, .p 3 0), (5, .p 4 0), (6, .p 5 0), (8, .ik .i64 1), (9, .ws 0), (10, .ws 1), (25, .b)], [(0, .rows [.i .i64]), (1, .rows [.i .i64]), (2, .cells [.b, .b, .s, .i .i64, .i .i64, .s, .s, .i .u8, .i .u8, .i .u8, .ws 0, .ws 1]), (3, .cells [.i .i64, .i .i64, .i .i64]), (4, .cells [.b]), (5, .cells [.ik .i64 0, .ik .i64 0, .ik .i64 0])], 62, 2, 2, 2⟩ [⟨.nrm, ⟨[(3, .p 2 0), (4, .p 3 0), (5, .p 4 0), (6, .p 5 0), (8, .ik .i64 (-1)), (9, .ws 62), (10, .ws 63)], [(0, .rows [.i .i64]), (1, .rows [.i .i64]), (2, .cells [.b, .b, .s, .i .i64, .i .i64, .s, .s, .i .u8, .i .u8, .i .u8, .ws 0, .ws 1]), (3, .cells [.i .i64, .i .i64, .i .i64]), (4, .cells [.b]), (5, .cells [.ik .i64 0, .ik .i64 0, .ik .i64 0]), (62, .rows [.i .i64]), (63, .rows [.i .i64])], 64, 2, 2, 2⟩⟩, ⟨.nrm, ⟨[(3, .p 2 0), (4, .p 3 0), (5, .p 4 0), (6, .p 5 0), (8, .ik .i64 1), (9, .ws 0), (10, .ws 1)], [(0, .rows [.i .i64]), (1, .rows [.i .i64]), (2, .cells [.b, .b, .s, .i .i64, .i .i64, .s, .s, .i .u8, .i .u8, .i .u8, .ws 0, .ws 1]), (3, .cells [.i .i64, .i .i64, .i .i64]), (4, .cells [.b]), (5, .cells [.ik .i64 0, .ik .i64 0, .ik .i64 0])], 62, 2, 2, 2⟩⟩] (fillings_form_seek_j3 n) (by kernel_rfl) (by kernel_rfl)
def c38j20 (n : Nat) : LP Tryz.prog Tryz.f38.ntmps := joinC (c38E n) [] 1020 (sb (sb (sb (sb (acM [] [3, 17, 20, 23, 30] Tryz.f38) 0).body 1).body 1017) 1020) ⟨[(3, .p 2 0), (4, .p 3 0), (5, .p 4 0), (6, .p 5 0), (8, .i .i64), (9, .ws 62), (10, .ws 63), (11, .fn 81 [.p 4 0]), (12, .i .i64), (15, .i .i64), (16, .b), (53, .ws 62), (54, .i .i64), (55, .i .i64)], [(0, .rows [.i .i64]), (1, .rows [.i .i64]), (2, .cells [.b, .b, .s, .i .i64, .i .i64, .s, .s, .i .u8, .i .u8, .i .u8, .ws 0, .ws 1]), (3, .cells [.i .i64, .i .i64, .i .i64]), (4, .cells [.b]), (5, .cells [.i .i64, .i .i64, .i .i64]), (62, .rows [.i .i64]), (63, .rows [.i .i64])], 64, 2, 2, 2⟩ [⟨.nrm, ⟨[(3, .p 2 0), (4, .p 3 0), (5, .p 4 0), (6, .p 5 0), (8, .i .i64), (9, .ws 62), (10, .ws 63), (11, .fn 81 [.p 4 0]), (12, .i .i64), (15, .i .i64), (16, .b), (53, .ws 62), (54, .i .i64), (55, .i .i64), (76, .b)], [(0, .rows [.i .i64]), (1, .rows [.i .i64]), (2, .cells [.b, .b, .s, .i .i64, .i .i64, .s, .s, .i .u8, .i .u8, .i .u8, .ws 0, .ws 1]), (3, .cells [.i .i64, .i .i64, .i .i64]), (4, .cells [.b]), (5, .cells [.i .i64, .i .i64, .i .i64]), (62, .rows [.i .i64]), (63, .rows [.i .i64])], 64, 2, 2, 2⟩⟩] (fillings_form_seek_j20 n) (by kernel_rfl) (by kernel_rfl)
def c38j20a (n : Nat) : LP Tryz.prog Tryz.f38.ntmps := joinC (c38E n) [] 1020 (sb (sb (sb (sb (acM [] [3, 17, 20, 23, 30] Tryz.f38) 0).body 1).body 1017) 1020) ⟨[(3, .p 2 0), (4, .p 3 0), (5, .p 4 0), (6, .p 5 0), (8, .i .i64), (9, .ws 0), (10, .ws 1), (11, .fn 81 [.p 4 0]), (12, .i .i64), (15, .i .i64), (16, .b), (53, .ws 0), (54, .i .i64), (55, .i .i64)], [(0, .rows [.i .i64]), (1, .rows [.i .i64]), (2, .cells [.b, .b, .s, .i .i64, .i .i64, .s, .s, .i .u8, .i .u8, .i .u8, .ws 0, .ws 1]), (3, .cells [.i .i64, .i .i64, .i .i64]), (4, .cells [.b]), (5, .cells [.i .i64, .i .i64, .i .i64])], 62, 2, 2, 2⟩ [⟨.nrm, ⟨[(3, .p 2 0), (4, .p 3 0), (5, .p 4 0), (6, .p 5 0), (8, .i .i64), (9, .ws 0), (10, .ws 1), (11, .fn 81 [.p 4 0]), (12, .i .i64), (15, .i .i64), (16, .b), (53, .ws 0), (54, .i .i64), (55, .i .i64), (76, .b)], [(0, .rows [.i .i64]), (1, .rows [.i .i64]), (2, .cells [.b, .b, .s, .i .i64, .i .i64, .s, .s, .i .u8, .i .u8, .i .u8, .ws 0, .ws 1]), (3, .cells [.i .i64, .i .i64, .i .i64]), (4, .cells [.b]), (5, .cells [.i .i64, .i .i64, .i .i64])], 62, 2, 2, 2⟩⟩] (fillings_form_seek_j20a n) (by kernel_rfl) (by kernel_rfl)
def c38j23 (n : Nat) : LP Tryz.prog Tryz.f38.ntmps := joinC (c38E n) [] 1023 (sb (sb (sb (sb (acM [] [3, 17, 20, 23, 30] Tryz.f38) 0).body 1).body 1017) 1023) ⟨[(3, .p 2 0), (4, .p 3 0), (5, .p 4 0), (6, .p 5 0), (8, .i .i64), (9, .ws 62), (10, .ws 63), (11, .fn 81 [.p 4 0]), (12, .i .i64), (15, .i .i64), (16, .b), (17, .i .i64), (53, .ws 62), (54, .i .i64), (55, .i .i64)], [(0, .rows [.i .i64]), (1, .rows [.i .i64]), (2, .cells [.b, .b, .s, .i .i64, .i .i64, .s, .s, .i .u8, .i .u8, .i .u8, .ws 0, .ws 1]), (3, .cells [.i .i64, .i .i64, .i .i64]), (4, .cells [.b]), (5, .cells [.i .i64, .i .i64, .i .i64]), (62, .rows [.i .i64]), (63, .rows [.i .i64])], 64, 2, 2, 2⟩ [⟨.nrm, ⟨[(3, .p 2 0), (4, .p 3 0), (5, .p 4 0), (6, .p 5 0), (8, .i .i64), (9, .ws 62), (10, .ws 63), (11, .fn 81 [.p 4 0]), (12, .i .i64), (15, .i .i64), (16, .b), (17, .i .i64), (53, .ws 62), (54, .i .i64), (55, .i .i64)], [(0, .rows [.i .i64]), (1, .rows [.i .i64]), (2, .cells [.b, .b, .s, .i .i64, .i .i64, .s, .s, .i .u8, .i .u8, .i .u8, .ws 0, .ws 1]), (3, .cells [.i .i64, .i .i64, .i .i64]), (4, .cells [.b]), (5, .cells [.i .i64, .i .i64, .i .i64]), (62, .rows [.i .i64]), (63, .rows [.i .i64])], 64, 2, 2, 2⟩⟩] (fillings_form_seek_j23 n) (by kernel_rfl) (by kernel_rfl)
def c38j23a (n : Nat) : LP Tryz.prog Tryz.f38.ntmps := joinC (c38E n) [] 1023 (sb (sb (sb (sb (acM [] [3, 17, 20, 23, 30] Tryz.f38) 0).body 1).body 1017) 1023) ⟨[(3, .p 2 0), (4, .p 3 0), (5, .p 4 0), (6, .p 5 0), (8, .i .i64), (9, .ws 0), (10, .ws 1), (11, .fn 81 [.p 4 0]), (12, .i .i64), (15, .i .i64), (16, .b), (17, .i .i64), (53, .ws 0), (54, .i .i64), (55, .i .i64)], [(0, .rows [.i .i64]), (1, .rows [.i .i64]), (2, .cells [.b, .b, .s, .i .i64, .i .i64, .s, .s, .i .u8, .i .u8, .i .u8, .ws 0, .ws 1]), (3, .cells [.i .i64, .i .i64, .i .i64]), (4, .cells [.b]), (5, .cells [.i .i64, .i .i64, .i .i64])], 62, 2, 2, 2⟩ [⟨.nrm, ⟨[(3, .p 2 0), (4, .p 3 0), (5, .p 4 0), (6, .p 5 0), (8, .i .i64), (9, .ws 0), (10, .ws 1), (11, .fn 81 [.p 4 0]), (12, .i .i64), (15, .i .i64), (16, .b), (17, .i .i64), (53, .ws 0), (54, .i .i64), (55, .i .i64)], [(0, .rows [.i .i64]), (1, .rows [.i .i64]), (2, .cells [.b, .b, .s, .i .i64, .i .i64, .s, .s, .i .u8, .i .u8, .i .u8, .ws 0, .ws 1]), (3, .cells [.i .i64, .i .i64, .i .i64]), (4, .cells [.b]), (5, .cells [.i .i64, .i .i64, .i .i64])], 62, 2, 2, 2⟩⟩] (fillings_form_seek_j23a n) (by kernel_rfl) (by kernel_rfl)
def c38j30 (n : Nat) : LP Tryz.prog Tryz.f38.ntmps := joinC (c38E n) [] 1030 (sb (sb (sb (sb (sb (acM [] [3, 17, 20, 23, 30] Tryz.f38) 0).body 1).body 1017) 2).body 1030) ⟨[(3, .p 2 0), (4, .p 3 0), (5, .p 4 0), (6, .p 5 0), (8, .i .i64), (9, .ws 62), (10, .ws 63), (11, .fn 81 [.p 4 0]), (12, .i .i64), (15, .i .i64), (16, .b), (17, .i .i64), (19, .i .i64), (53, .ws 62), (54, .i .i64), (55, .i .i64), (94, .ws 63), (95, .i .i64), (96, .i .i64)], [(0, .rows [.i .i64]), (1, .rows [.i .i64]), (2, .cells [.b, .b, .s, .i .i64, .i .i64, .s, .s, .i .u8, .i .u8, .i .u8, .ws 0, .ws 1]), (3, .cells [.i .i64, .i .i64, .i .i64]), (4, .cells [.b]), (5, .cells [.i .i64, .i .i64, .i .i64]), (62, .rows [.i .i64]), (63, .rows [.i .i64])], 64, 2, 2, 2⟩ [⟨.nrm, ⟨[(3, .p 2 0), (4, .p 3 0), (5, .p 4 0), (6, .p 5 0), (8, .i .i64), (9, .ws 62), (10, .ws 63), (11, .fn 81 [.p 4 0]), (12, .i .i64), (15, .i .i64), (16, .b), (17, .i .i64), (19, .i .i64), (53, .ws 62), (54, .i .i64), (55, .i .i64), (94, .ws 63), (95, .i .i64), (96, .i .i64), (119, .b)], [(0, .rows [.i .i64]), (1, .rows [.i .i64]), (2, .cells [.b, .b, .s, .i .i64, .i .i64, .s, .s, .i .u8, .i .u8, .i .u8, .ws 0, .ws 1]), (3, .cells [.i .i64, .i .i64, .i .i64]), (4, .cells [.b]), (5, .cells [.i .i64, .i .i64, .i .i64]), (62, .rows [.i .i64]), (63, .rows [.i .i64])], 64, 2, 2, 2⟩⟩] (fillings_form_seek_j30 n) (by kernel_rfl) (by kernel_rfl)
def c38j30a (n : Nat) : LP Tryz.prog Tryz.f38.ntmps := joinC (c38E n) [] 1030 (sb (sb (sb (sb (sb (acM [] [3, 17, 20, 23, 30] Tryz.f38) 0).body 1).body 1017) 2).body 1030) ⟨[(3, .p 2 0), (4, .p 3 0), (5, .p 4 0), (6, .p 5 0), (8, .i .i64), (9, .ws 0), (10, .ws 1), (11, .fn 81 [.p 4 0]), (12, .i .i64), (15, .i .i64), (16, .b), (17, .i .i64), (19, .i .i64), (53, .ws 0), (54, .i .i64), (55, .i .i64), (94, .ws 1), (95, .i .i64), (96, .i .i64)], [(0, .rows [.i .i64]), (1, .rows [.i .i64]), (2, .cells [.b, .b, .s, .i .i64, .i .i64, .s, .s, .i .u8, .i .u8, .i .u8, .ws 0, .ws 1]), (3, .cells [.i .i64, .i .i64, .i .i64]), (4, .cells [.b]), (5, .cells [.i .i64, .i .i64, .i .i64])], 62, 2, 2, 2⟩ [⟨.nrm, ⟨[(3, .p 2 0), (4, .p 3 0), (5, .p 4 0), (6, .p 5 0), (8, .i .i64), (9, .ws 0), (10, .ws 1), (11, .fn 81 [.p 4 0]), (12, .i .i64), (15, .i .i64), (16, .b), (17, .i .i64), (19, .i .i64), (53, .ws 0), (54, .i .i64), (55, .i .i64), (94, .ws 1), (95, .i .i64), (96, .i .i64), (119, .b)], [(0, .rows [.i .i64]), (1, .rows [.i .i64]), (2, .cells [.b, .b, .s, .i .i64, .i .i64, .s, .s, .i .u8, .i .u8, .i .u8, .ws 0, .ws 1]), (3, .cells [.i .i64, .i .i64, .i .i64]), (4, .cells [.b]), (5, .cells [.i .i64, .i .i64, .i .i64])], 62, 2, 2, 2⟩⟩] (fillings_form_seek_j30a n) (by kernel_rfl) (by kernel_rfl)
def c38l2 (n : Nat) : LP Tryz.prog Tryz.f38.ntmps := loopC (c38E n) [altL (c38j30 n) (c38j30a n) rfl] 2 (sb (sb (sb (sb (acM [] [3, 17, 20, 23, 30] Tryz.f38) 0).body 1).body 1017) 2) ⟨[(3, .p 2 0), (4, .p 3 0), (5, .p 4 0), (6, .p 5 0), (8, .i .i64), (9, .ws 62), (10, .ws 63), (11, .fn 81 [.p 4 0]), (12, .i .i64), (15, .i .i64), (16, .b), (17, .i .i64), (53, .ws 62), (54, .i .i64), (55, .i .i64), (94, .ws 63), (95, .i .i64), (96, .i .i64)], [(0, .rows [.i .i64]), (1, .rows [.i .i64]), (2, .cells [.b, .b, .s, .i .i64, .i .i64, .s, .s, .i .u8, .i .u8, .i .u8, .ws 0, .ws 1]), (3, .cells [.i .i64, .i .i64, .i .i64]), (4, .cells [.b]), (5, .cells [.i .i64, .i .i64, .i .i64]), (62, .rows [.i .i64]), (63, .rows [.i .i64])], 64, 2, 2, 2⟩ [] [⟨.ret, ⟨[(6, .p 5 0), (7, .b)], [(5, .cells [.i .i64, .i .i64, .i .i64])], 64, 2, 2, 2⟩⟩, ⟨.exit 4, ⟨[(3, .p 2 0), (4, .p 3 0), (5, .p 4 0), (6, .p 5 0), (8, .i .i64), (9, .ws 62), (10, .ws 63), (11, .fn 81 [.p 4 0]), (12, .i .i64), (53, .ws 62), (54, .i .i64), (55, .i .i64)], [(0, .rows [.i .i64]), (1, .rows [.i .i64]), (2, .cells [.b, .b, .s, .i .i64, .i .i64, .s, .s, .i .u8, .i .u8, .i .u8, .ws 0, .ws 1]), (3, .cells [.i .i64, .i .i64, .i .i64]), (4, .cells [.b]), (5, .cells [.i .i64, .i .i64, .i .i64]), (62, .rows [.i .i64]), (63, .rows [.i .i64])], 64, 2, 2, 2⟩⟩] (fillings_form_seek_l2 n) n (by kernel_rfl) (by kernel_rfl)
def c38l2a (n : Nat) : LP Tryz.prog Tryz.f38.ntmps := loopC (c38E n) [altL (c38j30 n) (c38j30a n) rfl] 2 (sb (sb (sb (sb (acM [] [3, 17, 20, 23, 30] Tryz.f38) 0).body 1).body 1017) 2) ⟨[(3, .p 2 0), (4, .p 3 0), (5, .p 4 0), (6, .p 5 0), (8, .i .i64), (9, .ws 0), (10, .ws 1), (11, .fn 81 [.p 4 0]), (12, .i .i64), (15, .i .i64), (16, .b), (17, .i .i64), (53, .ws 0), (54, .i .i64), (55, .i .i64), (94, .ws 1), (95, .i .i64), (96, .i .i64)], [(0, .rows [.i .i64]), (1, .rows [.i .i64]), (2, .cells [.b, .b, .s, .i .i64, .i .i64, .s, .s, .i .u8, .i .u8, .i .u8, .ws 0, .ws 1]), (3, .cells [.i .i64, .i .i64, .i .i64]), (4, .cells [.b]), (5, .cells [.i .i64, .i .i64, .i .i64])], 62, 2, 2, 2⟩ [] [⟨.ret, ⟨[(6, .p 5 0), (7, .b)], [(5, .cells [.i .i64, .i .i64, .i .i64])], 62, 2, 2, 2⟩⟩, ⟨.exit 4, ⟨[(3, .p 2 0), (4, .p 3 0), (5, .p 4 0), (6, .p 5 0), (8, .i .i64), (9, .ws 0), (10, .ws 1), (11, .fn 81 [.p 4 0]), (12, .i .i64), (53, .ws 0), (54, .i .i64), (55, .i .i64)], [(0, .rows [.i .i64]), (1, .rows [.i .i64]), (2, .cells [.b, .b, .s, .i .i64, .i .i64, .s, .s, .i .u8, .i .u8, .i .u8, .ws 0, .ws 1]), (3, .cells [.i .i64, .i .i64, .i .i64]), (4, .cells [.b]), (5, .cells [.i .i64, .i .i64, .i .i64])], 62, 2, 2, 2⟩⟩] (fillings_form_seek_l2a n) n (by kernel_rfl) (by kernel_rfl)
def c38j17 (n : Nat) : LP Tryz.prog Tryz.f38.ntmps := joinC (c38E n) [altL (c38j20 n) (c38j20a n) rfl, altL (c38j23 n) (c38j23a n) rfl, altL (c38l2 n) (c38l2a n) rfl] 1017 (sb (sb (sb (acM [] [3, 17, 20, 23, 30] Tryz.f38) 0).body 1).body 1017) ⟨[(3, .p 2 0), (4, .p 3 0), (5, .p 4 0), (6, .p 5 0), (8, .i .i64), (9, .ws 62), (10, .ws 63), (11, .fn 81 [.p 4 0]), (12, .i .i64), (53, .ws 62), (54, .i .i64), (55, .i .i64)], [(0, .rows [.i .i64]), (1, .rows [.i .i64]), (2, .cells [.b, .b, .s, .i .i64, .i .i64, .s, .s, .i .u8, .i .u8, .i .u8, .ws 0, .ws 1]), (3, .cells [.i .i64, .i .i64, .i .i64]), (4, .cells [.b]), (5, .cells [.i .i64, .i .i64, .i .i64]), (62, .rows [.i .i64]), (63, .rows [.i .i64])], 64, 2, 2, 2⟩ [⟨.nrm, ⟨[(3, .p 2 0), (4, .p 3 0), (5, .p 4 0), (6, .p 5 0), (8, .i .i64), (9, .ws 62), (10, .ws 63), (11, .fn 81 [.p 4 0]), (12, .i .i64), (53, .ws 62), (54, .i .i64), (55, .i .i64)], [(0, .rows [.i .i64]), (1, .rows [.i .i64]), (2, .cells [.b, .b, .s, .i .i64, .i .i64, .s, .s, .i .u8, .i .u8, .i .u8, .ws 0, .ws 1]), (3, .cells [.i .i64, .i .i64, .i .i64]), (4, .cells [.b]), (5, .cells [.i .i64, .i .i64, .i .i64]), (62, .rows [.i .i64]), (63, .rows [.i .i64])], 64, 2, 2, 2⟩⟩, ⟨.ret, ⟨[(6, .p 5 0), (7, .b)], [(5, .cells [.i .i64, .i .i64, .i .i64])], 64, 2, 2, 2⟩⟩] (fillings_form_seek_j17 n) (by kernel_rfl) (by kernel_rfl)
def c38j17a (n : Nat) : LP Tryz.prog Tryz.f38.ntmps := joinC (c38E n) [altL (c38j20 n) (c38j20a n) rfl, altL (c38j23 n) (c38j23a n) rfl, altL (c38l2 n) (c38l2a n) rfl] 1017 (sb (sb (sb (acM [] [3, 17, 20, 23, 30] Tryz.f38) 0).body 1).body 1017) ⟨[(3, .p 2 0), (4, .p 3 0), (5, .p 4 0), (6, .p 5 0), (8, .i .i64), (9, .ws 0), (10, .ws 1), (11, .fn 81 [.p 4 0]), (12, .i .i64), (53, .ws 0), (54, .i .i64), (55, .i .i64)], [(0, .rows [.i .i64]), (1, .rows [.i .i64]), (2, .cells [.b, .b, .s, .i .i64, .i .i64, .s, .s, .i .u8, .i .u8, .i .u8, .ws 0, .ws 1]), (3, .cells [.i .i64, .i .i64, .i .i64]), (4, .cells [.b]), (5, .cells [.i .i64, .i .i64, .i .i64])], 62, 2, 2, 2⟩ [⟨.nrm, ⟨[(3, .p 2 0), (4, .p 3 0), (5, .p 4 0), (6, .p 5 0), (8, .i .i64), (9, .ws 0), (10, .ws 1), (11, .fn 81 [.p 4 0]), (12, .i .i64), (53, .ws 0), (54, .i .i64), (55, .i .i64)], [(0, .rows [.i .i64]), (1, .rows [.i .i64]), (2, .cells [.b, .b, .s, .i .i64, .i .i64, .s, .s, .i .u8, .i .u8, .i .u8, .ws 0, .ws 1]), (3, .cells [.i .i64, .i .i64, .i .i64]), (4, .cells [.b]), (5, .cells [.i .i64, .i .i64, .i .i64])], 62, 2, 2, 2⟩⟩, ⟨.ret, ⟨[(6, .p 5 0), (7, .b)], [(5, .cells [.i .i64, .i .i64, .i .i64])], 62, 2, 2, 2⟩⟩] (fillings_form_seek_j17a n) (by kernel_rfl) (by kernel_rfl)
def c38l1 (n : Nat) : LP Tryz.prog Tryz.f38.ntmps := loopC (c38E n) [altL (c38j17 n) (c38j17a n) rfl] 1 (sb (sb (acM [] [3, 17, 20, 23, 30] Tryz.f38) 0).body 1) ⟨[(3, .p 2 0), (4, .p 3 0), (5, .p 4 0), (6, .p 5 0), (8, .i .i64), (9, .ws 62), (10, .ws 63), (11, .fn 81 [.p 4 0]), (12, .i .i64), (53, .ws 62), (54, .i .i64), (55, .i .i64)], [(0, .rows [.i .i64]), (1, .rows [.i .i64]), (2, .cells [.b, .b, .s, .i .i64, .i .i64, .s, .s, .i .u8, .i .u8, .i .u8, .ws 0, .ws 1]), (3, .cells [.i .i64, .i .i64, .i .i64]), (4, .cells [.b]), (5, .cells [.i .i64, .i .i64, .i .i64]), (62, .rows [.i .i64]), (63, .rows [.i .i64])], 64, 2, 2, 2⟩ [] [⟨.ret, ⟨[(6, .p 5 0), (7, .b)], [(5, .cells [.i .i64, .i .i64, .i .i64])], 64, 2, 2, 2⟩⟩, ⟨.exit 2, ⟨[(3, .p 2 0), (4, .p 3 0), (5, .p 4 0), (6, .p 5 0), (8, .i .i64), (9, .ws 62), (10, .ws 63), (11, .fn 81 [.p 4 0]), (12, .i .i64)], [(0, .rows [.i .i64]), (1, .rows [.i .i64]), (2, .cells [.b, .b, .s, .i .i64, .i .i64, .s, .s, .i .u8, .i .u8, .i .u8, .ws 0, .ws 1]), (3, .cells [.i .i64, .i .i64, .i .i64]), (4, .cells [.b]), (5, .cells [.i .i64, .i .i64, .i .i64]), (62, .rows [.i .i64]), (63, .rows [.i .i64])], 64, 2, 2, 2⟩⟩] (fillings_form_seek_l1 n) n (by kernel_rfl) (by kernel_rfl)
def c38l1a (n : Nat) : LP Tryz.prog Tryz.f38.ntmps := loopC (c38E n) [altL (c38j17 n) (c38j17a n) rfl] 1 (sb (sb (acM [] [3, 17, 20, 23, 30] Tryz.f38) 0).body 1) ⟨[(3, .p 2 0), (4, .p 3 0), (5, .p 4 0), (6, .p 5 0), (8, .i .i64), (9, .ws 0), (10, .ws 1), (11, .fn 81 [.p 4 0]), (12, .i .i64), (53, .ws 0), (54, .i .i64), (55, .i .i64)], [(0, .rows [.i .i64]), (1, .rows [.i .i64]), (2, .cells [.b, .b, .s, .i .i64, .i .i64, .s, .s, .i .u8, .i .u8, .i .u8, .ws 0, .ws 1]), (3, .cells [.i .i64, .i .i64, .i .i64]), (4, .cells [.b]), (5, .cells [.i .i64, .i .i64, .i .i64])], 62, 2, 2, 2⟩ [] [⟨.ret, ⟨[(6, .p 5 0), (7, .b)], [(5, .cells [.i .i64, .i .i64, .i .i64])], 62, 2, 2, 2⟩⟩, ⟨.exit 2, ⟨[(3, .p 2 0), (4, .p 3 0), (5, .p 4 0), (6, .p 5 0), (8, .i .i64), (9, .ws 0), (10, .ws 1), (11, .fn 81 [.p 4 0]), (12, .i .i64)], [(0, .rows [.i .i64]), (1, .rows [.i .i64]), (2, .cells [.b, .b, .s, .i .i64, .i .i64, .s, .s, .i .u8, .i .u8, .i .u8, .ws 0, .ws 1]), (3, .cells [.i .i64, .i .i64, .i .i64]), (4, .cells [.b]), (5, .cells [.i .i64, .i .i64, .i .i64])], 62, 2, 2, 2⟩⟩] (fillings_form_seek_l1a n) n (by kernel_rfl) (by kernel_rfl)
def c38l0 (n : Nat) : LP Tryz.prog Tryz.f38.ntmps := loopC (c38E n) [altL (c38l1 n) (c38l1a n) rfl] 0 (sb (acM [] [3, 17, 20, 23, 30] Tryz.f38) 0) ⟨[(3, .p 2 0), (4, .p 3 0), (5, .p 4 0), (6, .p 5 0), (8, .i .i64), (9, .ws 62), (10, .ws 63), (11, .fn 81 [.p 4 0]), (12, .i .i64), (13, .b)], [(0, .rows [.i .i64]), (1, .rows [.i .i64]), (2, .cells [.b, .b, .s, .i .i64, .i .i64, .s, .s, .i .u8, .i .u8, .i .u8, .ws 0, .ws 1]), (3, .cells [.i .i64, .i .i64, .i .i64]), (4, .cells [.b]), (5, .cells [.i .i64, .i .i64, .i .i64]), (62, .rows [.i .i64]), (63, .rows [.i .i64])], 64, 2, 2, 2⟩ [] [⟨.ret, ⟨[(6, .p 5 0), (7, .b)], [(5, .cells [.i .i64, .i .i64, .i .i64])], 64, 2, 2, 2⟩⟩, ⟨.exit 0, ⟨[(6, .p 5 0)], [(5, .cells [.i .i64, .i .i64, .i .i64])], 64, 2, 2, 2⟩⟩] (fillings_form_seek_l0 n) n (by kernel_rfl) (by kernel_rfl)
def c38l0a (n : Nat) : LP Tryz.prog Tryz.f38.ntmps := loopC (c38E n) [altL (c38l1 n) (c38l1a n) rfl] 0 (sb (acM [] [3, 17, 20, 23, 30] Tryz.f38) 0) ⟨[(3, .p 2 0), (4, .p 3 0), (5, .p 4 0), (6, .p 5 0), (8, .i .i64), (9, .ws 0), (10, .ws 1), (11, .fn 81 [.p 4 0]), (12, .i .i64), (13, .b)], [(0, .rows [.i .i64]), (1, .rows [.i .i64]), (2, .cells [.b, .b, .s, .i .i64, .i .i64, .s, .s, .i .u8, .i .u8, .i .u8, .ws 0, .ws 1]), (3, .cells [.i .i64, .i .i64, .i .i64]), (4, .cells [.b]), (5, .cells [.i .i64, .i .i64, .i .i64])], 62, 2, 2, 2⟩ [] [⟨.ret, ⟨[(6, .p 5 0), (7, .b)], [(5, .cells [.i .i64, .i .i64, .i .i64])], 62, 2, 2, 2⟩⟩, ⟨.exit 0, ⟨[(6, .p 5 0)], [(5, .cells [.i .i64, .i .i64, .i .i64])], 62, 2, 2, 2⟩⟩] (fillings_form_seek_l0a n) n (by kernel_rfl) (by kernel_rfl)
def c38 (n : Nat) : FF Tryz.prog 38 [.ag [.b, .b, .s, .i .i64, .i .i64, .s, .s, .i .u8, .i .u8, .i .u8, .ws 0, .ws 1], .ag [.i .i64, .i .i64, .i .i64], .b] [.rows [.i .i64], .rows [.i .i64]] 2 2 [⟨.tp [.ag [.i .i64, .i .i64, .i .i64], .b], [], [], false⟩] := funC Tryz.func38 Tryz.call38 (c38E n) [c38j3 n, altL (c38l0 n) (c38l0a n) rfl] [] [3, 17, 20, 23, 30] [0, 1] (fillings_form_seek n) (by kernel_rfl) (by kernel_rfl)

def c15 (n : Nat) : PF Tryz.prog 15 [.ag [.b, .b, .s, .i .i64, .i .i64, .s, .s, .i .u8, .i .u8, .i .u8]] (.i .i64) := pureC Tryz.func15 Tryz.call15 [(c36 n).e, (c37 n).e, (c38 n).e] [] [] [] (fillings_Check n) (by kernel_rfl) (by kernel_rfl)

def c39 (n : Nat) : PF Tryz.prog 39 [.ag [.b, .b, .s, .i .i64, .i .i64, .s, .s, .i .u8, .i .u8, .i .u8]] (.b) := pureC Tryz.func39 Tryz.call39 [(c84 n).e] [] [] [] (dateforms_Masked n) (by kernel_rfl) (by kernel_rfl)

def c16 (n : Nat) : PF Tryz.prog 16 [.ag [.b, .b, .s, .i .i64, .i .i64, .s, .s, .i .u8, .i .u8, .i .u8]] (.b) := pureC Tryz.func16 Tryz.call16 [(c39 n).e] [] [] [] (bounds_exact n) (by kernel_rfl) (by kernel_rfl)

def c19 (n : Nat) : FF Tryz.prog 19 [] [] 0 0 [⟨.mp 0, [(0, .mp .u8 [(0, 45), (1, 47), (2, 51), (3, 54)])], [0], false⟩] := funC Tryz.func19 Tryz.call19 [] [] [] [] [] (bounds_units n) (by kernel_rfl) (by kernel_rfl)

def c20 (n : Nat) : PF Tryz.prog 20 [.ag [.b, .b, .s, .i .i64, .i .i64, .s, .s, .i .u8, .i .u8, .i .u8]] (.i .u8) := pureC Tryz.func20 Tryz.call20 [(c56 n).e] [] [] [] (dateforms_Precision n) (by kernel_rfl) (by kernel_rfl)

def c45 (n : Nat) : FF Tryz.prog 45 [.i .i64, .ws 0] [.rows [.i .i64]] 1 1 [⟨.ag [.i .i8, .i .i64, .i .i8, .i .i64], [], [], false⟩] := funC Tryz.func45 Tryz.call45 [(c46 n).e] [] [] [] [0] (bounds_units_1 n) (by kernel_rfl) (by kernel_rfl)

def c49 (n : Nat) : PF Tryz.prog 49 [.i .i64] (.tp [.i .i64, .i .i64]) := pureC Tryz.func49 Tryz.call49 [(c98 n).e, (c99 n).e] [] [] [] (years_End n) (by kernel_rfl) (by kernel_rfl)

def c100 (n : Nat) : PF Tryz.prog 100 [.i .i64] (.ag [.i .i8, .i .i64]) := pureC Tryz.func100 Tryz.call100 [] [] [] [] (ends_Of n) (by kernel_rfl) (by kernel_rfl)

def c50 (n : Nat) : PF Tryz.prog 50 [.i .i64, .i .i64] (.ag [.i .i8, .i .i64, .i .i8, .i .i64]) := pureC Tryz.func50 Tryz.call50 [(c100 n).e] [] [] [] (bounds_run n) (by kernel_rfl) (by kernel_rfl)

def c47 (n : Nat) : FF Tryz.prog 47 [.i .i64, .ws 0] [.rows [.i .i64]] 1 1 [⟨.ag [.i .i8, .i .i64, .i .i8, .i .i64], [], [], false⟩] := funC Tryz.func47 Tryz.call47 [(c48 n).e, (c49 n).e, (c50 n).e] [] [] [] [0] (bounds_units_2 n) (by kernel_rfl) (by kernel_rfl)

def c51 (n : Nat) : FF Tryz.prog 51 [.i .i64, .ws 0] [.rows [.i .i64]] 1 1 [⟨.ag [.i .i8, .i .i64, .i .i8, .i .i64], [], [], false⟩] := funC Tryz.func51 Tryz.call51 [(c52 n).e, (c53 n).e, (c50 n).e] [] [] [] [0] (bounds_units_3 n) (by kernel_rfl) (by kernel_rfl)

def c103 (n : Nat) : PF Tryz.prog 103 [.ag [.i .i64, .i .i64, .i .i64]] (.i .i64) := pureC Tryz.func103 Tryz.call103 [(c122 n).e] [] [] [] (civils_Check n) (by kernel_rfl) (by kernel_rfl)

def c55 (n : Nat) : PF Tryz.prog 55 [.ag [.i .i64, .i .i64, .i .i64]] (.tp [.i .i64, .i .i64]) := pureC Tryz.func55 Tryz.call55 [(c103 n).e, (c52 n).e] [] [] [] (civils_Day n) (by kernel_rfl) (by kernel_rfl)

def c54 (n : Nat) : FF Tryz.prog 54 [.i .i64, .ws 0] [.rows [.i .i64]] 1 1 [⟨.ag [.i .i8, .i .i64, .i .i8, .i .i64], [], [], false⟩] := funC Tryz.func54 Tryz.call54 [(c55 n).e, (c50 n).e] [] [] [] [0] (bounds_units_4 n) (by kernel_rfl) (by kernel_rfl)

def c6 (n : Nat) : PF Tryz.prog 6 [.ag [.b, .b, .s, .i .i64, .i .i64, .s, .s, .i .u8, .i .u8, .i .u8]] (.tp [.ag [.i .i8, .i .i64, .i .i8, .i .i64], .i .i64]) := pureC Tryz.func6 Tryz.call6 [(c15 n).e, (c16 n).e, (c17 n).e, (c18 n), (c19 n).e, (c20 n).e, (c45 n).e, (c47 n).e, (c51 n).e, (c54 n).e] [] [] [] (bounds_Days n) (by kernel_rfl) (by kernel_rfl)

def c23E (n : Nat) : List (FE Tryz.prog) := [(c57 n).e]
def c23l0 (n : Nat) : LP Tryz.prog Tryz.f23.ntmps := loopC (c23E n) [] 0 (sb (acM [] [] Tryz.f23) 0) ⟨[(0, .i .i64), (4, .i .i64), (5, .i .i64)], [], 0, 0, 0, 0⟩ [] [⟨.exit 0, ⟨[(4, .i .i64)], [], 0, 0, 0, 0⟩⟩] (circaref17_year_l0 n) n (by kernel_rfl) (by kernel_rfl)
def c23 (n : Nat) : PF Tryz.prog 23 [.i .i64] (.i .i64) := pureC Tryz.func23 Tryz.call23 (c23E n) [c23l0 n] [] [] (circaref17_year n) (by kernel_rfl) (by kernel_rfl)

def c24j6 (n : Nat) : LP Tryz.prog Tryz.f24.ntmps := joinC [] [] 1006 (sb (sb (acM [] [4, 6, 11, 13, 18, 20, 25, 27, 32, 34, 36, 41, 43] Tryz.f24) 1004) 1006) ⟨[(0, .i .i64), (4, .i .i64), (5, .b)], [], 0, 0, 0, 0⟩ [⟨.nrm, ⟨[(0, .i .i64), (4, .i .i64), (5, .b)], [], 0, 0, 0, 0⟩⟩] (circaref17_season_j6 n) (by kernel_rfl) (by kernel_rfl)
def c24j4 (n : Nat) : LP Tryz.prog Tryz.f24.ntmps := joinC [] [c24j6 n] 1004 (sb (acM [] [4, 6, 11, 13, 18, 20, 25, 27, 32, 34, 36, 41, 43] Tryz.f24) 1004) ⟨[(0, .i .i64), (4, .i .i64), (5, .b)], [], 0, 0, 0, 0⟩ [⟨.nrm, ⟨[(0, .i .i64), (4, .i .i64), (5, .b)], [], 0, 0, 0, 0⟩⟩] (circaref17_season_j4 n) (by kernel_rfl) (by kernel_rfl)
def c24j13 (n : Nat) : LP Tryz.prog Tryz.f24.ntmps := joinC [] [] 1013 (sb (sb (acM [] [4, 6, 11, 13, 18, 20, 25, 27, 32, 34, 36, 41, 43] Tryz.f24) 1011) 1013) ⟨[(0, .i .i64), (4, .i .i64), (9, .b)], [], 0, 0, 0, 0⟩ [⟨.nrm, ⟨[(0, .i .i64), (4, .i .i64), (9, .b)], [], 0, 0, 0, 0⟩⟩] (circaref17_season_j13 n) (by kernel_rfl) (by kernel_rfl)
def c24j11 (n : Nat) : LP Tryz.prog Tryz.f24.ntmps := joinC [] [c24j13 n] 1011 (sb (acM [] [4, 6, 11, 13, 18, 20, 25, 27, 32, 34, 36, 41, 43] Tryz.f24) 1011) ⟨[(0, .i .i64), (4, .i .i64), (9, .b)], [], 0, 0, 0, 0⟩ [⟨.nrm, ⟨[(0, .i .i64), (4, .i .i64), (9, .b)], [], 0, 0, 0, 0⟩⟩] (circaref17_season_j11 n) (by kernel_rfl) (by kernel_rfl)
def c24j20 (n : Nat) : LP Tryz.prog Tryz.f24.ntmps := joinC [] [] 1020 (sb (sb (acM [] [4, 6, 11, 13, 18, 20, 25, 27, 32, 34, 36, 41, 43] Tryz.f24) 1018) 1020) ⟨[(0, .i .i64), (4, .i .i64), (13, .b)], [], 0, 0, 0, 0⟩ [⟨.nrm, ⟨[(0, .i .i64), (4, .i .i64), (13, .b)], [], 0, 0, 0, 0⟩⟩] (circaref17_season_j20 n) (by kernel_rfl) (by kernel_rfl)
def c24j18 (n : Nat) : LP Tryz.prog Tryz.f24.ntmps := joinC [] [c24j20 n] 1018 (sb (acM [] [4, 6, 11, 13, 18, 20, 25, 27, 32, 34, 36, 41, 43] Tryz.f24) 1018) ⟨[(0, .i .i64), (4, .i .i64), (13, .b)], [], 0, 0, 0, 0⟩ [⟨.nrm, ⟨[(0, .i .i64), (4, .i .i64), (13, .b)], [], 0, 0, 0, 0⟩⟩] (circaref17_season_j18 n) (by kernel_rfl) (by kernel_rfl)
def c24j27 (n : Nat) : LP Tryz.prog Tryz.f24.ntmps := joinC [] [] 1027 (sb (sb (acM [] [4, 6, 11, 13, 18, 20, 25, 27, 32, 34, 36, 41, 43] Tryz.f24) 1025) 1027) ⟨[(0, .i .i64), (4, .i .i64), (17, .b)], [], 0, 0, 0, 0⟩ [⟨.nrm, ⟨[(0, .i .i64), (4, .i .i64), (17, .b)], [], 0, 0, 0, 0⟩⟩] (circaref17_season_j27 n) (by kernel_rfl) (by kernel_rfl)
def c24j25 (n : Nat) : LP Tryz.prog Tryz.f24.ntmps := joinC [] [c24j27 n] 1025 (sb (acM [] [4, 6, 11, 13, 18, 20, 25, 27, 32, 34, 36, 41, 43] Tryz.f24) 1025) ⟨[(0, .i .i64), (4, .i .i64), (17, .b)], [], 0, 0, 0, 0⟩ [⟨.nrm, ⟨[(0, .i .i64), (4, .i .i64), (17, .b)], [], 0, 0, 0, 0⟩⟩] (circaref17_season_j25 n) (by kernel_rfl) (by kernel_rfl)
def c24j36 (n : Nat) : LP Tryz.prog Tryz.f24.ntmps := joinC [] [] 1036 (sb (sb (sb (acM [] [4, 6, 11, 13, 18, 20, 25, 27, 32, 34, 36, 41, 43] Tryz.f24) 1032) 1034) 1036) ⟨[(0, .i .i64), (4, .i .i64), (21, .b)], [], 0, 0, 0, 0⟩ [⟨.nrm, ⟨[(0, .i .i64), (4, .i .i64), (21, .b)], [], 0, 0, 0, 0⟩⟩] (circaref17_season_j36 n) (by kernel_rfl) (by kernel_rfl)
def c24j34 (n : Nat) : LP Tryz.prog Tryz.f24.ntmps := joinC [] [c24j36 n] 1034 (sb (sb (acM [] [4, 6, 11, 13, 18, 20, 25, 27, 32, 34, 36, 41, 43] Tryz.f24) 1032) 1034) ⟨[(0, .i .i64), (4, .i .i64), (21, .b)], [], 0, 0, 0, 0⟩ [⟨.nrm, ⟨[(0, .i .i64), (4, .i .i64), (21, .b)], [], 0, 0, 0, 0⟩⟩] (circaref17_season_j34 n) (by kernel_rfl) (by kernel_rfl)
def c24j32 (n : Nat) : LP Tryz.prog Tryz.f24.ntmps := joinC [] [c24j34 n] 1032 (sb (acM [] [4, 6, 11, 13, 18, 20, 25, 27, 32, 34, 36, 41, 43] Tryz.f24) 1032) ⟨[(0, .i .i64), (4, .i .i64), (21, .b)], [], 0, 0, 0, 0⟩ [⟨.nrm, ⟨[(0, .i .i64), (4, .i .i64), (21, .b)], [], 0, 0, 0, 0⟩⟩] (circaref17_season_j32 n) (by kernel_rfl) (by kernel_rfl)
def c24j43 (n : Nat) : LP Tryz.prog Tryz.f24.ntmps := joinC [] [] 1043 (sb (sb (acM [] [4, 6, 11, 13, 18, 20, 25, 27, 32, 34, 36, 41, 43] Tryz.f24) 1041) 1043) ⟨[(0, .i .i64), (4, .i .i64), (30, .b)], [], 0, 0, 0, 0⟩ [⟨.nrm, ⟨[(0, .i .i64), (30, .b)], [], 0, 0, 0, 0⟩⟩] (circaref17_season_j43 n) (by kernel_rfl) (by kernel_rfl)
def c24j41 (n : Nat) : LP Tryz.prog Tryz.f24.ntmps := joinC [] [c24j43 n] 1041 (sb (acM [] [4, 6, 11, 13, 18, 20, 25, 27, 32, 34, 36, 41, 43] Tryz.f24) 1041) ⟨[(0, .i .i64), (4, .i .i64), (30, .b)], [], 0, 0, 0, 0⟩ [⟨.nrm, ⟨[(0, .i .i64), (30, .b)], [], 0, 0, 0, 0⟩⟩] (circaref17_season_j41 n) (by kernel_rfl) (by kernel_rfl)
def c24 (n : Nat) : PF Tryz.prog 24 [.i .i64] (.tp [.i .i64, .i .i64]) := pureC Tryz.func24 Tryz.call24 [] [c24j4 n, c24j11 n, c24j18 n, c24j25 n, c24j32 n, c24j41 n] [] [4, 6, 11, 13, 18, 20, 25, 27, 32, 34, 36, 41, 43] (circaref17_season n) (by kernel_rfl) (by kernel_rfl)

def c25E (n : Nat) : List (FE Tryz.prog) := [(c23 n).e, (c57 n).e]
def c25l0 (n : Nat) : LP Tryz.prog Tryz.f25.ntmps := loopC (c25E n) [] 0 (sb (acM [] [] Tryz.f25) 0) ⟨[(0, .i .i64), (1, .i .i64), (5, .i .i64), (6, .i .i64)], [], 0, 0, 0, 0⟩ [] [⟨.exit 0, ⟨[(5, .i .i64)], [], 0, 0, 0, 0⟩⟩] (circaref17_month_v3_l0 n) n (by kernel_rfl) (by kernel_rfl)
def c25 (n : Nat) : PF Tryz.prog 25 [.i .i64, .i .i64] (.i .i64) := pureC Tryz.func25 Tryz.call25 (c25E n) [c25l0 n] [] [] (circaref17_month_v3 n) (by kernel_rfl) (by kernel_rfl)

def c25_1E (n : Nat) : List (FE Tryz.prog) := [(c25 n).e, (c23 n).e, (c57 n).e]
def c25_1l0 (n : Nat) : LP Tryz.prog Tryz.f25.ntmps := loopC (c25_1E n) [] 0 (sb (acM [] [] Tryz.f25) 0) ⟨[(0, .i .i64), (1, .i .i64), (5, .i .i64), (6, .i .i64)], [], 0, 0, 0, 0⟩ [] [⟨.exit 0, ⟨[(5, .i .i64)], [], 0, 0, 0, 0⟩⟩] (circaref17_month_v2_l0 n) n (by kernel_rfl) (by kernel_rfl)
def c25_1 (n : Nat) : PF Tryz.prog 25 [.i .i64, .i .i64] (.i .i64) := pureC Tryz.func25 Tryz.call25 (c25_1E n) [c25_1l0 n] [] [] (circaref17_month_v2 n) (by kernel_rfl) (by kernel_rfl)

def c25_2E (n : Nat) : List (FE Tryz.prog) := [(c25_1 n).e, (c23 n).e, (c57 n).e]
def c25_2l0 (n : Nat) : LP Tryz.prog Tryz.f25.ntmps := loopC (c25_2E n) [] 0 (sb (acM [] [] Tryz.f25) 0) ⟨[(0, .i .i64), (1, .i .i64), (5, .i .i64), (6, .i .i64)], [], 0, 0, 0, 0⟩ [] [⟨.exit 0, ⟨[(5, .i .i64)], [], 0, 0, 0, 0⟩⟩] (circaref17_month_l0 n) n (by kernel_rfl) (by kernel_rfl)
def c25_2 (n : Nat) : PF Tryz.prog 25 [.i .i64, .i .i64] (.i .i64) := pureC Tryz.func25 Tryz.call25 (c25_2E n) [c25_2l0 n] [] [] (circaref17_month n) (by kernel_rfl) (by kernel_rfl)

def c26 (n : Nat) : PF Tryz.prog 26 [.s] (.i .i64) := pureC Tryz.func26 Tryz.call26 [] [] [] [] (circaref17_number n) (by kernel_rfl) (by kernel_rfl)

def c7 (n : Nat) : PF Tryz.prog 7 [.ag [.b, .b, .s, .i .i64, .i .i64, .s, .s, .i .u8, .i .u8, .i .u8]] (.tp [.i .i64, .i .i64]) := pureC Tryz.func7 Tryz.call7 [(c21 n).e, (c22 n).e, (c23 n).e, (c24 n).e, (c25_2 n).e, (c26 n).e] [] [] [] (circaref17_Days n) (by kernel_rfl) (by kernel_rfl)

def c8 (n : Nat) : PF Tryz.prog 8 [.i .i64, .i .i64] (.ag [.i .i8, .i .i64, .i .i8, .i .i64]) := pureC Tryz.func8 Tryz.call8 [] [] [] [] (circalaw17_run n) (by kernel_rfl) (by kernel_rfl)

def c10 (n : Nat) : PF Tryz.prog 10 [.s] (.ag [.i .u8, .b, .b, .s, .i .i64, .i .i64, .s, .s, .i .u8, .i .u8, .i .u8]) := pureC Tryz.func10 Tryz.call10 [(c4 n).e] [] [] [] (circalaw17_known n) (by kernel_rfl) (by kernel_rfl)

def c27 (n : Nat) : PF Tryz.prog 27 [.ag [.i .u8, .b, .b, .s, .i .i64, .i .i64, .s, .s, .i .u8, .i .u8, .i .u8]] (.i .i64) := pureC Tryz.func27 Tryz.call27 [(c15 n).e, (c16 n).e] [] [] [] (bounds_Check n) (by kernel_rfl) (by kernel_rfl)

def c105 (n : Nat) : PF Tryz.prog 105 [.i .i8] (.b) := pureC Tryz.func105 Tryz.call105 [] [] [] [] (cmp_isNaN_int8 n) (by kernel_rfl) (by kernel_rfl)

def c59 (n : Nat) : PF Tryz.prog 59 [.i .i8, .i .i8] (.i .i64) := pureC Tryz.func59 Tryz.call59 [(c105 n).e] [] [] [] (cmp_Compare_int8 n) (by kernel_rfl) (by kernel_rfl)

def c106 (n : Nat) : PF Tryz.prog 106 [.i .i64] (.b) := pureC Tryz.func106 Tryz.call106 [] [] [] [] (cmp_isNaN_int64 n) (by kernel_rfl) (by kernel_rfl)

def c60 (n : Nat) : PF Tryz.prog 60 [.i .i64, .i .i64] (.i .i64) := pureC Tryz.func60 Tryz.call60 [(c106 n).e] [] [] [] (cmp_Compare_int64 n) (by kernel_rfl) (by kernel_rfl)

def c58l0 (n : Nat) : LP Tryz.prog Tryz.f58.ntmps := loopC [] [] 0 (sb (acM [] [] Tryz.f58) 0) ⟨[(3, .i .i64), (6, .ws 0), (7, .i .i64), (8, .i .i64)], [(0, .rows [.i .i64])], 1, 1, 1, 1⟩ [] [⟨.ret, ⟨[(2, .i .i64)], [], 1, 1, 1, 1⟩⟩, ⟨.exit 0, ⟨[(3, .i .i64)], [], 1, 1, 1, 1⟩⟩] (cmp_Or_int_l0 n) n (by kernel_rfl) (by kernel_rfl)
def c58 (n : Nat) : FF Tryz.prog 58 [.ws 0] [.rows [.i .i64]] 1 1 [⟨.i .i64, [], [], false⟩] := funC Tryz.func58 Tryz.call58 [] [c58l0 n] [] [] [0] (cmp_Or_int n) (by kernel_rfl) (by kernel_rfl)

def c28 (n : Nat) : PF Tryz.prog 28 [.ag [.i .i8, .i .i64], .ag [.i .i8, .i .i64]] (.i .i64) := pureC Tryz.func28 Tryz.call28 [(c59 n).e, (c60 n).e, (c58 n).e] [] [] [] (ends_Compare n) (by kernel_rfl) (by kernel_rfl)

def c9 (n : Nat) : PF Tryz.prog 9 [.ag [.i .u8, .b, .b, .s, .i .i64, .i .i64, .s, .s, .i .u8, .i .u8, .i .u8], .ag [.i .u8, .b, .b, .s, .i .i64, .i .i64, .s, .s, .i .u8, .i .u8, .i .u8]] (.i .i64) := pureC Tryz.func9 Tryz.call9 [(c27 n).e, (c6 n).e, (c28 n).e] [] [0] [] (bounds_Pair n) (by kernel_rfl) (by kernel_rfl)

def c61 (n : Nat) : FF Tryz.prog 61 [.p 0 0] [.cells [.s, .i .i64]] 1 1 [⟨.i .i64, [], [], false⟩] := funC Tryz.func61 Tryz.call61 [] [] [] [] [0] (cursors_Cursor_At n) (by kernel_rfl) (by kernel_rfl)

def c66 (n : Nat) : FF Tryz.prog 66 [.p 0 0] [.cells [.s, .i .i64]] 1 1 [⟨.s, [], [], false⟩] := funC Tryz.func66 Tryz.call66 [] [] [] [] [0] (cursors_Cursor_Rest n) (by kernel_rfl) (by kernel_rfl)

def c175 (n : Nat) : PF Tryz.prog 175 [.s, .s] (.b) := pureC Tryz.func175 Tryz.call175 [] [] [] [] (int_stringslite_HasPrefix n) (by kernel_rfl) (by kernel_rfl)

def c146 (n : Nat) : PF Tryz.prog 146 [.s, .s] (.b) := pureC Tryz.func146 Tryz.call146 [(c175 n).e] [] [] [] (strings_HasPrefix n) (by kernel_rfl) (by kernel_rfl)

def c107 (n : Nat) : FF Tryz.prog 107 [.p 0 0, .s] [.cells [.s, .i .i64]] 1 1 [⟨.b, [], [], false⟩] := funC Tryz.func107 Tryz.call107 [(c66 n).e, (c146 n).e] [] [] [] [0] (cursors_Cursor_Is n) (by kernel_rfl) (by kernel_rfl)

def c62 (n : Nat) : FF Tryz.prog 62 [.p 0 0, .s] [.cells [.s, .i .i64]] 0 1 [⟨.b, [(0, .cells [.s, .i .i64])], [], false⟩] := funC Tryz.func62 Tryz.call62 [(c107 n).e] [] [] [] [0] (cursors_Cursor_Take n) (by kernel_rfl) (by kernel_rfl)

def c63 (n : Nat) : FF Tryz.prog 63 [.p 0 0] [.cells [.s, .i .i64]] 1 1 [⟨.tp [.i .u8, .b], [], [], false⟩] := funC Tryz.func63 Tryz.call63 [(c66 n).e] [] [] [] [0] (cursors_Cursor_Peek n) (by kernel_rfl) (by kernel_rfl)

def c176 (n : Nat) : PF Tryz.prog 176 [] (.ag [.s, .s, .s, .s]) := pureC Tryz.func176 Tryz.call176 [] [] [] [] (marks_texts n) (by kernel_rfl) (by kernel_rfl)

def c177l0 (n : Nat) : LP Tryz.prog Tryz.f177.ntmps := loopC [] [] 0 (sb (acM [] [] Tryz.f177) 0) ⟨[(0, .sl 0 0 4 (some (.k 4))), (1, .s), (7, .i .i64), (8, .i .i64)], [(0, .cells [.s, .s, .s, .s])], 1, 1, 1, 1⟩ [] [⟨.ret, ⟨[(4, .i .i64)], [], 1, 1, 1, 1⟩⟩, ⟨.exit 0, ⟨[], [], 1, 1, 1, 1⟩⟩] (slices_Index_string_string_l0 n) n (by kernel_rfl) (by kernel_rfl)
def c177 (n : Nat) : FF Tryz.prog 177 [.sl 0 0 4 (some (.k 4)), .s] [.cells [.s, .s, .s, .s]] 1 1 [⟨.i .i64, [], [], false⟩] := funC Tryz.func177 Tryz.call177 [] [c177l0 n] [] [] [0] (slices_Index_string_string n) (by kernel_rfl) (by kernel_rfl)

def c148 (n : Nat) : PF Tryz.prog 148 [.i .u8] (.tp [.i .u8, .b]) := pureC Tryz.func148 Tryz.call148 [(c176 n).e, (c177 n).e] [] [] [] (marks_Of n) (by kernel_rfl) (by kernel_rfl)

def c65 (n : Nat) : FF Tryz.prog 65 [.p 0 0, .i .i64, .i .i64] [.cells [.s, .i .i64]] 1 1 [⟨.it 80 (.ag [.i .i64, .i .i64]), [], [], true⟩] := funC Tryz.func65 Tryz.call65 [] [] [] [] [0] (cursors_Cursor_Fail n) (by kernel_rfl) (by kernel_rfl)

def c149 (n : Nat) : FF Tryz.prog 149 [.p 0 0, .s] [.cells [.s, .i .i64]] 0 1 [⟨.it 80 (.ag [.i .i64, .i .i64]), [(0, .cells [.s, .i .i64])], [], true⟩, ⟨.i .u8, [(0, .cells [.s, .i .i64])], [], false⟩] := funC Tryz.func149 Tryz.call149 [(c63 n).e, (c61 n).e, (c65 n).e, (c178 n).e] [] [] [] [0] (cursors_Cursor_One n) (by kernel_rfl) (by kernel_rfl)

def c147 (n : Nat) : FF Tryz.prog 147 [.p 0 0] [.cells [.p 1 0], .cells [.s, .i .i64]] 1 2 [⟨.it 80 (.ag [.i .i64, .i .i64]), [(1, .cells [.s, .i .i64])], [], true⟩, ⟨.i .u8, [(1, .cells [.s, .i .i64])], [], false⟩] := funC Tryz.func147 Tryz.call147 [(c63 n).e, (c148 n).e, (c149 n).e] [] [] [] [0, 1] (dateforms_Read_1 n) (by kernel_rfl) (by kernel_rfl)

def c150E (n : Nat) : List (FE Tryz.prog) := [(c61 n).e, (c63 n).e, (c178 n).e, (c65 n).e]
def c150l0 (n : Nat) : LP Tryz.prog Tryz.f150.ntmps := loopC (c150E n) [] 0 (sb (acM [] [] Tryz.f150) 0) ⟨[(0, .p 0 0), (1, .s), (2, .i .i64), (3, .i .i64), (9, .i .i64), (10, .i .u8), (11, .b)], [(0, .cells [.s, .i .i64])], 1, 1, 0, 1⟩ [] [⟨.exit 0, ⟨[(0, .p 0 0), (2, .i .i64), (9, .i .i64)], [(0, .cells [.s, .i .i64])], 1, 1, 0, 1⟩⟩] (cursors_Cursor_Some_l0 n) n (by kernel_rfl) (by kernel_rfl)
def c150 (n : Nat) : FF Tryz.prog 150 [.p 0 0, .s, .i .i64, .i .i64] [.cells [.s, .i .i64]] 0 1 [⟨.it 80 (.ag [.i .i64, .i .i64]), [(0, .cells [.s, .i .i64])], [], true⟩, ⟨.s, [(0, .cells [.s, .i .i64])], [], false⟩] := funC Tryz.func150 Tryz.call150 (c150E n) [c150l0 n] [] [] [0] (cursors_Cursor_Some n) (by kernel_rfl) (by kernel_rfl)

def c179 (n : Nat) : FF Tryz.prog 179 [.s, .p 0 0] [.cells [.p 1 0], .cells [.s, .i .i64]] 1 2 [⟨.i .i64, [(1, .cells [.s, .i .i64])], [], false⟩, ⟨.it 80 (.ag [.i .i64, .i .i64]), [(1, .cells [.s, .i .i64])], [], true⟩] := funC Tryz.func179 Tryz.call179 [(c62 n).e, (c149 n).e, (c150 n).e, (c18 n)] [] [] [] [0, 1] (yearforms_Read_1 n) (by kernel_rfl) (by kernel_rfl)

def c153 (n : Nat) : FF Tryz.prog 153 [.p 0 0] [.cells [.s, .i .i64]] 0 1 [⟨.it 80 (.ag [.i .i64, .i .i64]), [(0, .cells [.s, .i .i64])], [], true⟩, ⟨.ag [.b, .b, .s, .i .i64, .i .i64], [(0, .cells [.s, .i .i64])], [], false⟩] := funC Tryz.func153 Tryz.call153 [(c62 n).e, (c149 n).e, (c150 n).e, (c179 n).e] [] [] [] [0] (yearforms_Read n) (by kernel_rfl) (by kernel_rfl)

def c152 (n : Nat) : FF Tryz.prog 152 [.p 0 0, .p 1 0] [.cells [.p 2 0], .cells [.b, .b, .s, .i .i64, .i .i64, .s, .s, .i .u8, .i .u8, .i .u8], .cells [.s, .i .i64]] 1 3 [⟨.it 80 (.ag [.i .i64, .i .i64]), [(1, .cells [.b, .b, .s, .i .i64, .i .i64, .s, .s, .i .u8, .i .u8, .i .u8]), (2, .cells [.s, .i .i64])], [], true⟩, ⟨.tp [], [(1, .cells [.b, .b, .s, .i .i64, .i .i64, .s, .s, .i .u8, .i .u8, .i .u8]), (2, .cells [.s, .i .i64])], [], false⟩] := funC Tryz.func152 Tryz.call152 [(c153 n).e] [] [] [] [0, 1, 2] (dateforms_Read_3 n) (by kernel_rfl) (by kernel_rfl)

def c180 (n : Nat) : FF Tryz.prog 180 [.i .i64, .p 2 0, .p 0 0, .p 1 0] [.ints .u8 3, .ints .u8 3, .cells [.i .u8]] 2 3 [⟨.i .u8, [(2, .cells [.i .u8])], [], false⟩] := funC Tryz.func180 Tryz.call180 [] [] [] [] [2, 0, 1] (marks_Spread_1 n) (by kernel_rfl) (by kernel_rfl)

def c156E (n : Nat) : List (FE Tryz.prog) := [(c76 n).e, (c180 n).e]
def c156l1 (n : Nat) : LP Tryz.prog Tryz.f156.ntmps := loopC (c156E n) [] 1 (sb (acM [0] [] Tryz.f156) 1) ⟨[(6, .p 2 0), (12, .fn 180 [.p 5 0, .p 1 0, .p 0 0]), (13, .p 6 0), (14, .i .i64)], [(0, .ints .u8 3), (1, .ints .u8 3), (2, .ints .u8 3), (5, .cells [.i .u8]), (6, .ints .u8 3)], 7, 0, 0, 0⟩ [] [⟨.exit 2, ⟨[(6, .p 2 0), (13, .p 6 0)], [(2, .ints .u8 3), (6, .ints .u8 3)], 7, 0, 0, 0⟩⟩] (marks_Spread_l1 n) n (by kernel_rfl) (by kernel_rfl)
def c156 (n : Nat) : PF Tryz.prog 156 [.ai .u8 3, .ai .u8 3, .i .i64] (.tp [.ai .u8 3, .i .i64]) := pureC Tryz.func156 Tryz.call156 (c156E n) [c156l1 n] [0] [] (marks_Spread n) (by kernel_rfl) (by kernel_rfl)

def c151 (n : Nat) : FF Tryz.prog 151 [.p 0 0] [.cells [.fn 1000150 [.p 1 0]], .cells [.s, .i .i64]] 1 2 [⟨.it 80 (.ag [.i .i64, .i .i64]), [(1, .cells [.s, .i .i64])], [], true⟩, ⟨.s, [(1, .cells [.s, .i .i64])], [], false⟩] := funC Tryz.func151 Tryz.call151 [(c150 n).e] [] [] [] [0, 1] (dateforms_Read_2 n) (by kernel_rfl) (by kernel_rfl)

def c154 (n : Nat) : FF Tryz.prog 154 [.p 0 0, .p 2 0] [.cells [.fn 151 [.p 1 0]], .cells [.fn 1000150 [.p 3 0]], .cells [.b, .b, .s, .i .i64, .i .i64, .s, .s, .i .u8, .i .u8, .i .u8], .cells [.s, .i .i64]] 2 4 [⟨.it 80 (.ag [.i .i64, .i .i64]), [(2, .cells [.b, .b, .s, .i .i64, .i .i64, .s, .s, .i .u8, .i .u8, .i .u8]), (3, .cells [.s, .i .i64])], [], true⟩, ⟨.tp [], [(2, .cells [.b, .b, .s, .i .i64, .i .i64, .s, .s, .i .u8, .i .u8, .i .u8]), (3, .cells [.s, .i .i64])], [], false⟩] := funC Tryz.func154 Tryz.call154 [(c151 n).e] [] [] [] [0, 2, 1, 3] (dateforms_Read_4 n) (by kernel_rfl) (by kernel_rfl)

def c155 (n : Nat) : FF Tryz.prog 155 [.p 0 0, .p 2 0] [.cells [.fn 151 [.p 1 0]], .cells [.fn 1000150 [.p 3 0]], .cells [.b, .b, .s, .i .i64, .i .i64, .s, .s, .i .u8, .i .u8, .i .u8], .cells [.s, .i .i64]] 2 4 [⟨.it 80 (.ag [.i .i64, .i .i64]), [(2, .cells [.b, .b, .s, .i .i64, .i .i64, .s, .s, .i .u8, .i .u8, .i .u8]), (3, .cells [.s, .i .i64])], [], true⟩, ⟨.tp [], [(2, .cells [.b, .b, .s, .i .i64, .i .i64, .s, .s, .i .u8, .i .u8, .i .u8]), (3, .cells [.s, .i .i64])], [], false⟩] := funC Tryz.func155 Tryz.call155 [(c151 n).e] [] [] [] [0, 2, 1, 3] (dateforms_Read_5 n) (by kernel_rfl) (by kernel_rfl)

def c108 (n : Nat) : FF Tryz.prog 108 [.p 0 0] [.cells [.s, .i .i64]] 0 1 [⟨.it 80 (.ag [.i .i64, .i .i64]), [(0, .cells [.s, .i .i64])], [], true⟩, ⟨.tp [.ag [.b, .b, .s, .i .i64, .i .i64, .s, .s, .i .u8, .i .u8, .i .u8], .ai .i64 3], [(0, .cells [.s, .i .i64])], [], false⟩] := funC Tryz.func108 Tryz.call108 [(c147 n).e, (c61 n).e, (c152 n).e, (c156 n).e, (c62 n).e, (c154 n).e, (c155 n).e] [] [0] [] [0] (dateforms_Read n) (by kernel_rfl) (by kernel_rfl)

def c64 (n : Nat) : FF Tryz.prog 64 [.p 0 0] [.cells [.s, .i .i64]] 0 1 [⟨.it 80 (.ag [.i .i64, .i .i64]), [(0, .cells [.s, .i .i64])], [], true⟩, ⟨.tp [.ag [.b, .b, .s, .i .i64, .i .i64, .s, .s, .i .u8, .i .u8, .i .u8], .i .i64], [(0, .cells [.s, .i .i64])], [], false⟩] := funC Tryz.func64 Tryz.call64 [(c108 n).e, (c15 n).e, (c65 n).e] [] [] [] [0] (fillings_Read n) (by kernel_rfl) (by kernel_rfl)

def c30 (n : Nat) : FF Tryz.prog 30 [.p 0 0] [.cells [.s, .i .i64]] 0 1 [⟨.tp [.ag [.i .u8, .b, .b, .s, .i .i64, .i .i64, .s, .s, .i .u8, .i .u8, .i .u8], .i .i64], [(0, .cells [.s, .i .i64])], [], false⟩, ⟨.it 80 (.ag [.i .i64, .i .i64]), [(0, .cells [.s, .i .i64])], [], true⟩] := funC Tryz.func30 Tryz.call30 [(c61 n).e, (c62 n).e, (c63 n).e, (c64 n).e, (c16 n).e, (c65 n).e] [] [] [] [0] (bounds_Read n) (by kernel_rfl) (by kernel_rfl)

def c31E (n : Nat) : List (FE Tryz.prog) := [(c62 n).e, (c66 n).e, (c61 n).e, (c65 n).e]
def c31l0 (n : Nat) : LP Tryz.prog Tryz.f31.ntmps := loopC (c31E n) [] 0 (sb (acM [] [] Tryz.f31) 0) ⟨[(0, .p 0 0), (1, .s), (4, .i .i64), (5, .s)], [(0, .cells [.s, .i .i64])], 1, 1, 0, 1⟩ [] [⟨.exit 0, ⟨[(0, .p 0 0), (4, .i .i64)], [(0, .cells [.s, .i .i64])], 1, 1, 0, 1⟩⟩] (cursors_Cursor_Want_l0 n) n (by kernel_rfl) (by kernel_rfl)
def c31 (n : Nat) : FF Tryz.prog 31 [.p 0 0, .s] [.cells [.s, .i .i64]] 0 1 [⟨.tp [], [(0, .cells [.s, .i .i64])], [], false⟩, ⟨.it 80 (.ag [.i .i64, .i .i64]), [(0, .cells [.s, .i .i64])], [], true⟩] := funC Tryz.func31 Tryz.call31 (c31E n) [c31l0 n] [] [] [0] (cursors_Cursor_Want n) (by kernel_rfl) (by kernel_rfl)

def c12 (n : Nat) : FF Tryz.prog 12 [.p 0 0, .p 1 0] [.cells [.i .u8, .b, .b, .s, .i .i64, .i .i64, .s, .s, .i .u8, .i .u8, .i .u8, .i .i64], .cells [.s, .i .i64]] 0 2 [⟨.tp [], [(0, .cells [.i .u8, .b, .b, .s, .i .i64, .i .i64, .s, .s, .i .u8, .i .u8, .i .u8, .i .i64]), (1, .cells [.s, .i .i64])], [], false⟩, ⟨.it 80 (.ag [.i .i64, .i .i64]), [(0, .cells [.i .u8, .b, .b, .s, .i .i64, .i .i64, .s, .s, .i .u8, .i .u8, .i .u8, .i .i64]), (1, .cells [.s, .i .i64])], [], true⟩] := funC Tryz.func12 Tryz.call12 [(c30 n).e, (c31 n).e] [] [] [] [0, 1] (circalaw17_reader_read n) (by kernel_rfl) (by kernel_rfl)

def c11 (n : Nat) : FF Tryz.prog 11 [.s, .fn 1000012 [.p 0 0]] [.cells [.i .u8, .b, .b, .s, .i .i64, .i .i64, .s, .s, .i .u8, .i .u8, .i .u8, .i .i64]] 0 1 [⟨.tp [.i .i64, .i .i64], [(0, .cells [.i .u8, .b, .b, .s, .i .i64, .i .i64, .s, .s, .i .u8, .i .u8, .i .u8, .i .i64])], [], false⟩] := funD ⟨(acM [] [] Tryz.f11), 2, 3, 0, 9, 29, 5⟩ Tryz.func11 Tryz.call11 Tryz.func29 Tryz.call29 [(c12 n).e] [] [] [] [0] (cursors_Run_circalaw17_reader_read n) (by kernel_rfl) (by kernel_rfl) (by kernel_rfl) (by kernel_rfl)

def c67 (n : Nat) : FF Tryz.prog 67 [.p 0 0, .p 1 0] [.cells [.s, .i .i64], .cells [.i .u8, .b, .b, .s, .i .i64, .i .i64, .s, .s, .i .u8, .i .u8, .i .u8]] 0 2 [⟨.tp [], [(0, .cells [.s, .i .i64]), (1, .cells [.i .u8, .b, .b, .s, .i .i64, .i .i64, .s, .s, .i .u8, .i .u8, .i .u8])], [], false⟩, ⟨.it 80 (.ag [.i .i64, .i .i64]), [(0, .cells [.s, .i .i64]), (1, .cells [.i .u8, .b, .b, .s, .i .i64, .i .i64, .s, .s, .i .u8, .i .u8, .i .u8])], [], true⟩] := funC Tryz.func67 Tryz.call67 [(c30 n).e] [] [] [] [0, 1] (bounds_Parse_1 n) (by kernel_rfl) (by kernel_rfl)

def c11_1 (n : Nat) : FF Tryz.prog 11 [.s, .fn 67 [.p 0 0]] [.cells [.i .u8, .b, .b, .s, .i .i64, .i .i64, .s, .s, .i .u8, .i .u8, .i .u8]] 0 1 [⟨.tp [.i .i64, .i .i64], [(0, .cells [.i .u8, .b, .b, .s, .i .i64, .i .i64, .s, .s, .i .u8, .i .u8, .i .u8])], [], false⟩] := funD ⟨(acM [] [] Tryz.f11), 2, 3, 0, 9, 29, 5⟩ Tryz.func11 Tryz.call11 Tryz.func29 Tryz.call29 [(c67 n).e] [] [] [] [0] (cursors_Run_bounds_Parse_1 n) (by kernel_rfl) (by kernel_rfl) (by kernel_rfl) (by kernel_rfl)

def c32 (n : Nat) : PF Tryz.prog 32 [.s] (.tp [.ag [.i .u8, .b, .b, .s, .i .i64, .i .i64, .s, .s, .i .u8, .i .u8, .i .u8], .i .i64, .i .i64]) := pureC Tryz.func32 Tryz.call32 [(c11_1 n).e] [] [] [] (bounds_Parse n) (by kernel_rfl) (by kernel_rfl)

def c13E (n : Nat) : List (FE Tryz.prog) := [(c8 n).e, (c4 n).e, (c6 n).e, (c32 n).e, (c10 n).e, (c9 n).e]
def c13l0 (n : Nat) : LP Tryz.prog Tryz.f13.ntmps := loopC (c13E n) [] 0 (sb (acM [] [] Tryz.f13) 0) ⟨[(1, .ws 0), (2, .ws 1), (3, .i .i64)], [(0, .rows [.s]), (1, .rows [.i .i8, .i .i64, .i .i8, .i .i64])], 2, 0, 0, 0⟩ [] [⟨.ret, ⟨[(0, .b)], [], 2, 0, 0, 0⟩⟩, ⟨.exit 0, ⟨[], [], 2, 0, 0, 0⟩⟩] (circalaw17_lives_l0 n) n (by kernel_rfl) (by kernel_rfl)
def c13l1 (n : Nat) : LP Tryz.prog Tryz.f13.ntmps := loopC (c13E n) [] 1 (sb (acM [] [] Tryz.f13) 1) ⟨[(6, .ws 2), (7, .i .i64)], [(2, .rows [.s])], 3, 0, 0, 0⟩ [] [⟨.ret, ⟨[(0, .b)], [], 3, 0, 0, 0⟩⟩, ⟨.exit 2, ⟨[], [], 3, 0, 0, 0⟩⟩] (circalaw17_lives_l1 n) n (by kernel_rfl) (by kernel_rfl)
def c13l2 (n : Nat) : LP Tryz.prog Tryz.f13.ntmps := loopC (c13E n) [] 2 (sb (acM [] [] Tryz.f13) 2) ⟨[(11, .ws 3), (12, .i .i64)], [(3, .rows [.s])], 4, 0, 0, 0⟩ [] [⟨.ret, ⟨[(0, .b)], [], 4, 0, 0, 0⟩⟩, ⟨.exit 4, ⟨[], [], 4, 0, 0, 0⟩⟩] (circalaw17_lives_l2 n) n (by kernel_rfl) (by kernel_rfl)
def c13 (n : Nat) : PF Tryz.prog 13 [] (.b) := pureC Tryz.func13 Tryz.call13 (c13E n) [c13l0 n, c13l1 n, c13l2 n] [] [] (circalaw17_lives n) (by kernel_rfl) (by kernel_rfl)

def c3E (n : Nat) : List (FE Tryz.prog) := [(c5 n).e, (c4 n).e, (c6 n).e, (c7 n).e, (c8 n).e, (c10 n).e, (c9 n).e, (c11 n).e, (c13 n).e]
def c3l1 (n : Nat) : LP Tryz.prog Tryz.f3.ntmps := loopC (c3E n) [] 1 (sb (sb (acM [] [] Tryz.f3) 0).body 1) ⟨[(1, .i .i64), (2, .i .i64)], [], 0, 0, 0, 0⟩ [] [⟨.ret, ⟨[(0, .b)], [], 0, 0, 0, 0⟩⟩, ⟨.exit 2, ⟨[(1, .i .i64)], [], 0, 0, 0, 0⟩⟩] (circalaw17_BoundsKnown_l1 n) n (by kernel_rfl) (by kernel_rfl)
def c3l0 (n : Nat) : LP Tryz.prog Tryz.f3.ntmps := loopC (c3E n) [c3l1 n] 0 (sb (acM [] [] Tryz.f3) 0) ⟨[(1, .i .i64)], [], 0, 0, 0, 0⟩ [] [⟨.ret, ⟨[(0, .b)], [], 0, 0, 0, 0⟩⟩, ⟨.exit 0, ⟨[], [], 0, 0, 0, 0⟩⟩] (circalaw17_BoundsKnown_l0 n) n (by kernel_rfl) (by kernel_rfl)
def c3l2 (n : Nat) : LP Tryz.prog Tryz.f3.ntmps := loopC (c3E n) [] 2 (sb (acM [] [] Tryz.f3) 2) ⟨[(16, .ws 3), (17, .i .i64)], [(3, .rows [.s])], 4, 0, 0, 0⟩ [] [⟨.ret, ⟨[(0, .b)], [], 4, 0, 0, 0⟩⟩, ⟨.exit 4, ⟨[], [], 4, 0, 0, 0⟩⟩] (circalaw17_BoundsKnown_l2 n) n (by kernel_rfl) (by kernel_rfl)
def c3 (n : Nat) : PF Tryz.prog 3 [] (.b) := pureC Tryz.func3 Tryz.call3 (c3E n) [c3l0 n, c3l2 n] [] [] (circalaw17_BoundsKnown n) (by kernel_rfl) (by kernel_rfl)
theorem pure_circalaw17_BoundsKnown (n : Nat) : ∀ a r, circalaw17_BoundsKnown n = some r → PureOK Tryz.prog 3 (argP [] a) (encP (.b) r) := fun a r h => (c3 n).ok a r h

end
end Go.Sh
