/- Each function of the program computes its plain function: the certificates.
   Conditions: none. Printed by the bench tool gen.py. -/
import Derived.Test.YtpeccjabfkaicaaDoorShR
import Derived.Test.YtpeccjabfkaicaaDoorProg
import Derived.Test.YtpeccjabfkaicaaDoorAbsX
import Derived.Test.YtpeccjabfkaicaaDoorAbsU
import Derived.Test.YtpeccjabfkaicaaDoorAbsW
import Derived.KernelRfl
import Derived.Test.YtpeccjabfkaicaaDoorAbsPat
import Derived.Test.YtpeccjabfkaicaaDoorShelf
set_option linter.unusedVariables false
set_option linter.unusedSimpArgs false
set_option maxRecDepth 100000
set_option maxHeartbeats 4000000
namespace Go.Sh
open Go.Abs Go.Proofs
noncomputable section

def c46 (n : Nat) : PF Tryd.prog 46 [.ag [.i .i8, .i .i64], .ag [.i .i8, .i .i64]] (.i .i64) := pureC Tryd.func46 Tryd.call46 [] [] [] [] (circaref31_less n) (by kernel_rfl) (by kernel_rfl)

def c50 (n : Nat) : PF Tryd.prog 50 [.ag [.i .i8, .i .i64], .ag [.i .i8, .i .i64]] (.i .i64) := pureC Tryd.func50 Tryd.call50 [] [] [] [] (circaref31_same n) (by kernel_rfl) (by kernel_rfl)

def c35 (n : Nat) : PF Tryd.prog 35 [.i .i64, .ag [.i .i8, .i .i64, .i .i8, .i .i64], .ag [.i .i8, .i .i64, .i .i8, .i .i64]] (.i .i64) := pureC Tryd.func35 Tryd.call35 [(c46 n).e, (c50 n).e] [] [] [] (circaref31_holds n) (by kernel_rfl) (by kernel_rfl)

def c15E (n : Nat) : List (FE Tryd.prog) := [(c35 n).e]
def c15l0 (n : Nat) : LP Tryd.prog Tryd.f15.ntmps := loopC (c15E n) [] 0 (sb (acM [] [] Tryd.f15) 0) ⟨[(2, .p 0 0), (3, .p 1 0), (5, .i .i64)], [(0, .cells [.i .i8, .i .i64, .i .i8, .i .i64]), (1, .cells [.i .i8, .i .i64, .i .i8, .i .i64])], 2, 0, 0, 0⟩ [] [⟨.ret, ⟨[(4, .i .i64)], [], 2, 0, 0, 0⟩⟩, ⟨.exit 0, ⟨[], [], 2, 0, 0, 0⟩⟩] (circaref31_Of_l0 n) n (by kernel_rfl) (by kernel_rfl)
def c15 (n : Nat) : PF Tryd.prog 15 [.ag [.i .i8, .i .i64, .i .i8, .i .i64], .ag [.i .i8, .i .i64, .i .i8, .i .i64]] (.i .i64) := pureC Tryd.func15 Tryd.call15 (c15E n) [c15l0 n] [] [] (circaref31_Of n) (by kernel_rfl) (by kernel_rfl)

def c4E (n : Nat) : List (FE Tryd.prog) := [(c15 n).e]
def c4l1 (n : Nat) : LP Tryd.prog Tryd.f4.ntmps := loopC (c4E n) [] 1 (sb (sb (acM [] [] Tryd.f4) 0).body 1) ⟨[(1, .ws 0), (2, .ws 1), (3, .i .i64), (4, .i .i64)], [(0, .rows [.i .i64]), (1, .rows [.i .i8, .i .i64, .i .i8, .i .i64])], 2, 0, 0, 0⟩ [] [⟨.exit 2, ⟨[(1, .ws 0), (2, .ws 1), (3, .i .i64)], [(0, .rows [.i .i64]), (1, .rows [.i .i8, .i .i64, .i .i8, .i .i64])], 2, 0, 0, 0⟩⟩] (circaref31_Table_l1 n) n (by kernel_rfl) (by kernel_rfl)
def c4l0 (n : Nat) : LP Tryd.prog Tryd.f4.ntmps := loopC (c4E n) [c4l1 n] 0 (sb (acM [] [] Tryd.f4) 0) ⟨[(1, .ws 0), (2, .ws 1), (3, .i .i64)], [(0, .rows [.i .i64]), (1, .rows [.i .i8, .i .i64, .i .i8, .i .i64])], 2, 0, 0, 0⟩ [.nilT 2 1 [.i .i8, .i .i64, .i .i8, .i .i64]] [⟨.exit 0, ⟨[(1, .ws 0), (2, .ws 1)], [(0, .rows [.i .i64]), (1, .rows [.i .i8, .i .i64, .i .i8, .i .i64])], 2, 0, 0, 0⟩⟩] (circaref31_Table_l0 n) n (by kernel_rfl) (by kernel_rfl)
def c4l4 (n : Nat) : LP Tryd.prog Tryd.f4.ntmps := loopC (c4E n) [] 4 (sb (sb (sb (acM [] [] Tryd.f4) 2).body 3).body 4) ⟨[(1, .ws 0), (2, .ws 1), (5, .i .i64), (6, .i .i64), (7, .i .i64), (8, .i .i64)], [(0, .rows [.i .i64]), (1, .rows [.i .i8, .i .i64, .i .i8, .i .i64])], 82, 0, 0, 0⟩ [] [⟨.exit 8, ⟨[(1, .ws 0), (2, .ws 1), (5, .i .i64), (6, .i .i64)], [(0, .rows [.i .i64]), (1, .rows [.i .i8, .i .i64, .i .i8, .i .i64])], 82, 0, 0, 0⟩⟩] (circaref31_Table_l4 n) n (by kernel_rfl) (by kernel_rfl)
def c4l3 (n : Nat) : LP Tryd.prog Tryd.f4.ntmps := loopC (c4E n) [c4l4 n] 3 (sb (sb (acM [] [] Tryd.f4) 2).body 3) ⟨[(1, .ws 0), (2, .ws 1), (5, .i .i64), (6, .i .i64)], [(0, .rows [.i .i64]), (1, .rows [.i .i8, .i .i64, .i .i8, .i .i64])], 2, 0, 0, 0⟩ [] [⟨.exit 6, ⟨[(1, .ws 0), (2, .ws 1), (5, .i .i64)], [(0, .rows [.i .i64]), (1, .rows [.i .i8, .i .i64, .i .i8, .i .i64])], 2, 0, 0, 0⟩⟩] (circaref31_Table_l3 n) n (by kernel_rfl) (by kernel_rfl)
def c4l2 (n : Nat) : LP Tryd.prog Tryd.f4.ntmps := loopC (c4E n) [c4l3 n] 2 (sb (acM [] [] Tryd.f4) 2) ⟨[(1, .ws 0), (2, .ws 1), (5, .i .i64)], [(0, .rows [.i .i64]), (1, .rows [.i .i8, .i .i64, .i .i8, .i .i64])], 2, 0, 0, 0⟩ [] [⟨.exit 4, ⟨[(1, .ws 0)], [(0, .rows [.i .i64])], 2, 0, 0, 0⟩⟩] (circaref31_Table_l2 n) n (by kernel_rfl) (by kernel_rfl)
def c4 (n : Nat) : FF Tryd.prog 4 [] [] 0 0 [⟨.ws 0, [(0, .rows [.i .i64])], [0], false⟩] := funC Tryd.func4 Tryd.call4 (c4E n) [c4l0 n, c4l2 n] [] [] [] (circaref31_Table n) (by kernel_rfl) (by kernel_rfl)

def c16 (n : Nat) : PF Tryd.prog 16 [.i .u8] (.b) := pureC Tryd.func16 Tryd.call16 [] [] [] [] (relations_valid n) (by kernel_rfl) (by kernel_rfl)

def c36 (n : Nat) : PF Tryd.prog 36 [.i .i64] (.ag [.i .i8, .i .i64]) := pureC Tryd.func36 Tryd.call36 [] [] [] [] (relations_day n) (by kernel_rfl) (by kernel_rfl)

def c66 (n : Nat) : PF Tryd.prog 66 [.i .i8] (.b) := pureC Tryd.func66 Tryd.call66 [] [] [] [] (cmp_isNaN_int8 n) (by kernel_rfl) (by kernel_rfl)

def c59 (n : Nat) : PF Tryd.prog 59 [.i .i8, .i .i8] (.i .i64) := pureC Tryd.func59 Tryd.call59 [(c66 n).e] [] [] [] (cmp_Compare_int8 n) (by kernel_rfl) (by kernel_rfl)

def c67 (n : Nat) : PF Tryd.prog 67 [.i .i64] (.b) := pureC Tryd.func67 Tryd.call67 [] [] [] [] (cmp_isNaN_int64 n) (by kernel_rfl) (by kernel_rfl)

def c60 (n : Nat) : PF Tryd.prog 60 [.i .i64, .i .i64] (.i .i64) := pureC Tryd.func60 Tryd.call60 [(c67 n).e] [] [] [] (cmp_Compare_int64 n) (by kernel_rfl) (by kernel_rfl)

def c58l0 (n : Nat) : LP Tryd.prog Tryd.f58.ntmps := loopC [] [] 0 (sb (acM [] [] Tryd.f58) 0) ⟨[(3, .i .i64), (6, .ws 0), (7, .i .i64), (8, .i .i64)], [(0, .rows [.i .i64])], 1, 1, 1, 1⟩ [] [⟨.ret, ⟨[(2, .i .i64)], [], 1, 1, 1, 1⟩⟩, ⟨.exit 0, ⟨[(3, .i .i64)], [], 1, 1, 1, 1⟩⟩] (cmp_Or_int_l0 n) n (by kernel_rfl) (by kernel_rfl)
def c58 (n : Nat) : FF Tryd.prog 58 [.ws 0] [.rows [.i .i64]] 1 1 [⟨.i .i64, [], [], false⟩] := funC Tryd.func58 Tryd.call58 [] [c58l0 n] [] [] [0] (cmp_Or_int n) (by kernel_rfl) (by kernel_rfl)

def c52 (n : Nat) : PF Tryd.prog 52 [.ag [.i .i8, .i .i64], .ag [.i .i8, .i .i64]] (.i .i64) := pureC Tryd.func52 Tryd.call52 [(c59 n).e, (c60 n).e, (c58 n).e] [] [] [] (ends_Compare n) (by kernel_rfl) (by kernel_rfl)

def c51 (n : Nat) : PF Tryd.prog 51 [.ag [.i .i8, .i .i64, .i .i8, .i .i64], .ag [.i .i8, .i .i64, .i .i8, .i .i64]] (.i .u8) := pureC Tryd.func51 Tryd.call51 [(c52 n).e] [] [] [] (relations_ahead n) (by kernel_rfl) (by kernel_rfl)

def c39 (n : Nat) : PF Tryd.prog 39 [.ag [.i .i8, .i .i64, .i .i8, .i .i64], .ag [.i .i8, .i .i64, .i .i8, .i .i64]] (.i .u8) := pureC Tryd.func39 Tryd.call39 [(c51 n).e, (c52 n).e] [] [] [] (relations_of n) (by kernel_rfl) (by kernel_rfl)

def c38 (n : Nat) : FF Tryd.prog 38 [.ag [.i .i8, .i .i64, .i .i8, .i .i64], .p 0 0, .p 1 0] [.cells [.i .i8, .i .i64, .i .i8, .i .i64], .cells [.i .u8]] 2 2 [⟨.b, [], [], false⟩] := funC Tryd.func38 Tryd.call38 [(c39 n).e] [] [] [] [0, 1] (relations_compose_2 n) (by kernel_rfl) (by kernel_rfl)

def c37E (n : Nat) : List (FE Tryd.prog) := [(c36 n).e, (c38 n).e]
def c37l1 (n : Nat) : LP Tryd.prog Tryd.f37.ntmps := loopC (c37E n) [] 1 (sb (sb (acM [] [] Tryd.f37) 0).body 1) ⟨[(0, .fn 38 [.p 0 0, .p 1 0]), (2, .ws 2), (3, .i .i64), (4, .i .i64), (6, .i .i64)], [(0, .cells [.i .i8, .i .i64, .i .i8, .i .i64]), (1, .cells [.i .u8]), (2, .rows [.i .i8, .i .i64, .i .i8, .i .i64])], 3, 2, 2, 2⟩ [] [⟨.exit 2, ⟨[(0, .fn 38 [.p 0 0, .p 1 0]), (2, .ws 2), (6, .i .i64)], [(0, .cells [.i .i8, .i .i64, .i .i8, .i .i64]), (1, .cells [.i .u8]), (2, .rows [.i .i8, .i .i64, .i .i8, .i .i64])], 3, 2, 2, 2⟩⟩] (relations_compose_1_relations_compose_2_l1 n) n (by kernel_rfl) (by kernel_rfl)
def c37l0 (n : Nat) : LP Tryd.prog Tryd.f37.ntmps := loopC (c37E n) [c37l1 n] 0 (sb (acM [] [] Tryd.f37) 0) ⟨[(0, .fn 38 [.p 0 0, .p 1 0]), (2, .ws 2), (6, .i .i64)], [(0, .cells [.i .i8, .i .i64, .i .i8, .i .i64]), (1, .cells [.i .u8]), (2, .rows [.i .i8, .i .i64, .i .i8, .i .i64])], 3, 2, 2, 2⟩ [.nilT 2 2 [.i .i8, .i .i64, .i .i8, .i .i64]] [⟨.exit 0, ⟨[(2, .ws 2)], [(2, .rows [.i .i8, .i .i64, .i .i8, .i .i64])], 3, 2, 2, 2⟩⟩] (relations_compose_1_relations_compose_2_l0 n) n (by kernel_rfl) (by kernel_rfl)
def c37 (n : Nat) : FF Tryd.prog 37 [.fn 38 [.p 0 0, .p 1 0]] [.cells [.i .i8, .i .i64, .i .i8, .i .i64], .cells [.i .u8]] 2 2 [⟨.ws 2, [(2, .rows [.i .i8, .i .i64, .i .i8, .i .i64])], [2], false⟩] := funC Tryd.func37 Tryd.call37 (c37E n) [c37l0 n] [] [] [0, 1] (relations_compose_1_relations_compose_2 n) (by kernel_rfl) (by kernel_rfl)

def c40 (n : Nat) : FF Tryd.prog 40 [.ag [.i .i8, .i .i64, .i .i8, .i .i64], .p 0 0, .p 1 0] [.cells [.i .i8, .i .i64, .i .i8, .i .i64], .cells [.i .u8]] 2 2 [⟨.b, [], [], false⟩] := funC Tryd.func40 Tryd.call40 [(c39 n).e] [] [] [] [0, 1] (relations_compose_3 n) (by kernel_rfl) (by kernel_rfl)

def c37_1E (n : Nat) : List (FE Tryd.prog) := [(c36 n).e, (c40 n).e]
def c37_1l1 (n : Nat) : LP Tryd.prog Tryd.f37.ntmps := loopC (c37_1E n) [] 1 (sb (sb (acM [] [] Tryd.f37) 0).body 1) ⟨[(0, .fn 40 [.p 0 0, .p 1 0]), (2, .ws 2), (3, .i .i64), (4, .i .i64), (6, .i .i64)], [(0, .cells [.i .i8, .i .i64, .i .i8, .i .i64]), (1, .cells [.i .u8]), (2, .rows [.i .i8, .i .i64, .i .i8, .i .i64])], 3, 2, 2, 2⟩ [] [⟨.exit 2, ⟨[(0, .fn 40 [.p 0 0, .p 1 0]), (2, .ws 2), (6, .i .i64)], [(0, .cells [.i .i8, .i .i64, .i .i8, .i .i64]), (1, .cells [.i .u8]), (2, .rows [.i .i8, .i .i64, .i .i8, .i .i64])], 3, 2, 2, 2⟩⟩] (relations_compose_1_relations_compose_3_l1 n) n (by kernel_rfl) (by kernel_rfl)
def c37_1l0 (n : Nat) : LP Tryd.prog Tryd.f37.ntmps := loopC (c37_1E n) [c37_1l1 n] 0 (sb (acM [] [] Tryd.f37) 0) ⟨[(0, .fn 40 [.p 0 0, .p 1 0]), (2, .ws 2), (6, .i .i64)], [(0, .cells [.i .i8, .i .i64, .i .i8, .i .i64]), (1, .cells [.i .u8]), (2, .rows [.i .i8, .i .i64, .i .i8, .i .i64])], 3, 2, 2, 2⟩ [.nilT 2 2 [.i .i8, .i .i64, .i .i8, .i .i64]] [⟨.exit 0, ⟨[(2, .ws 2)], [(2, .rows [.i .i8, .i .i64, .i .i8, .i .i64])], 3, 2, 2, 2⟩⟩] (relations_compose_1_relations_compose_3_l0 n) n (by kernel_rfl) (by kernel_rfl)
def c37_1 (n : Nat) : FF Tryd.prog 37 [.fn 40 [.p 0 0, .p 1 0]] [.cells [.i .i8, .i .i64, .i .i8, .i .i64], .cells [.i .u8]] 2 2 [⟨.ws 2, [(2, .rows [.i .i8, .i .i64, .i .i8, .i .i64])], [2], false⟩] := funC Tryd.func37 Tryd.call37 (c37_1E n) [c37_1l0 n] [] [] [0, 1] (relations_compose_1_relations_compose_3 n) (by kernel_rfl) (by kernel_rfl)

def c17E (n : Nat) : List (FE Tryd.prog) := [(c36 n).e, altF (c37 n).e ((c37_1 n).e) (Eq.trans (b := 37) rfl rfl), (c39 n).e]
def c17l1 (n : Nat) : LP Tryd.prog Tryd.f17.ntmps := loopC (c17E n) [] 1 (sb (sb (acM [] [] Tryd.f17) 0).body 1) ⟨[(7, .i .u16), (8, .ws 3), (10, .p 5 0), (21, .ws 4), (22, .i .i64), (23, .i .i64), (27, .ws 3), (28, .i .i64), (29, .i .i64)], [(3, .rows [.i .i8, .i .i64, .i .i8, .i .i64]), (4, .rows [.i .i8, .i .i64, .i .i8, .i .i64]), (5, .cells [.i .i8, .i .i64, .i .i8, .i .i64])], 6, 0, 0, 0⟩ [] [⟨.exit 2, ⟨[(7, .i .u16), (8, .ws 3), (21, .ws 4), (22, .i .i64), (23, .i .i64)], [(3, .rows [.i .i8, .i .i64, .i .i8, .i .i64]), (4, .rows [.i .i8, .i .i64, .i .i8, .i .i64])], 6, 0, 0, 0⟩⟩] (relations_compose_l1 n) n (by kernel_rfl) (by kernel_rfl)
def c17l0 (n : Nat) : LP Tryd.prog Tryd.f17.ntmps := loopC (c17E n) [c17l1 n] 0 (sb (acM [] [] Tryd.f17) 0) ⟨[(7, .i .u16), (8, .ws 3), (21, .ws 4), (22, .i .i64), (23, .i .i64)], [(3, .rows [.i .i8, .i .i64, .i .i8, .i .i64]), (4, .rows [.i .i8, .i .i64, .i .i8, .i .i64])], 5, 0, 0, 0⟩ [] [⟨.exit 0, ⟨[(7, .i .u16)], [], 5, 0, 0, 0⟩⟩] (relations_compose_l0 n) n (by kernel_rfl) (by kernel_rfl)
def c17 (n : Nat) : PF Tryd.prog 17 [.i .u8, .i .u8] (.i .u16) := pureC Tryd.func17 Tryd.call17 (c17E n) [c17l0 n] [] [] (relations_compose n) (by kernel_rfl) (by kernel_rfl)

def c5 (n : Nat) : PF Tryd.prog 5 [.i .u8, .i .u8] (.tp [.i .u16, .i .i64]) := pureC Tryd.func5 Tryd.call5 [(c16 n).e, (c17 n).e] [] [] [] (relations_Compose n) (by kernel_rfl) (by kernel_rfl)

def c41 (n : Nat) : PF Tryd.prog 41 [.i .u16] (.b) := pureC Tryd.func41 Tryd.call41 [] [] [] [] (relations_Set_right n) (by kernel_rfl) (by kernel_rfl)

def c26 (n : Nat) : PF Tryd.prog 26 [.i .u16, .i .u8] (.b) := pureC Tryd.func26 Tryd.call26 [(c16 n).e] [] [] [] (relations_Set_Has n) (by kernel_rfl) (by kernel_rfl)

def c42 (n : Nat) : FF Tryd.prog 42 [.ws 0] [.rows [.i .u8]] 1 1 [⟨.rs 1 0 0 .q (some .q), [], [], false⟩] := funC Tryd.func42 Tryd.call42 [] [] [] [] [0] (slices_Clip_api_Relation_api_Relation n) (by kernel_rfl) (by kernel_rfl)

def c20E (n : Nat) : List (FE Tryd.prog) := [(c26 n).e, (c42 n).e]
def c20l0 (n : Nat) : LP Tryd.prog Tryd.f20.ntmps := loopC (c20E n) [] 0 (sb (acM [] [] Tryd.f20) 0) ⟨[(0, .i .u16), (3, .ws 0), (4, .i .u8)], [(0, .rows [.i .u8])], 1, 0, 0, 0⟩ [.nilT 3 0 [.i .u8]] [⟨.exit 0, ⟨[(3, .ws 0)], [(0, .rows [.i .u8])], 1, 0, 0, 0⟩⟩] (relations_Set_List_l0 n) n (by kernel_rfl) (by kernel_rfl)
def c20 (n : Nat) : FF Tryd.prog 20 [.i .u16] [] 0 0 [⟨.rs 1 0 0 .q (some .q), [(0, .rows [.i .u8])], [0], false⟩] := funC Tryd.func20 Tryd.call20 (c20E n) [c20l0 n] [] [] [] (relations_Set_List n) (by kernel_rfl) (by kernel_rfl)

def c19 (n : Nat) : PF Tryd.prog 19 [.i .u8] (.tp [.i .u8, .i .i64]) := pureC Tryd.func19 Tryd.call19 [(c16 n).e] [] [] [] (relations_Converse n) (by kernel_rfl) (by kernel_rfl)

def c18E (n : Nat) : List (FE Tryd.prog) := [(c41 n).e, (c20 n).e, (c19 n).e]
def c18l0 (n : Nat) : LP Tryd.prog Tryd.f18.ntmps := loopC (c18E n) [] 0 (sb (acM [] [] Tryd.f18) 0) ⟨[(1, .fn 19 []), (6, .i .u16), (15, .rs 1 0 0 .q (some .q)), (16, .i .i64), (17, .i .i64)], [(0, .rows [.i .u8])], 1, 0, 0, 0⟩ [] [⟨.exit 0, ⟨[(6, .i .u16)], [], 1, 0, 0, 0⟩⟩] (relations_Set_each_l0 n) n (by kernel_rfl) (by kernel_rfl)
def c18 (n : Nat) : PF Tryd.prog 18 [.i .u16, .fn 19 []] (.tp [.i .u16, .i .i64]) := pureC Tryd.func18 Tryd.call18 (c18E n) [c18l0 n] [] [] (relations_Set_each n) (by kernel_rfl) (by kernel_rfl)

def c6 (n : Nat) : PF Tryd.prog 6 [.i .u16] (.tp [.i .u16, .i .i64]) := pureC Tryd.func6 Tryd.call6 [(c18 n).e] [] [] [] (relations_Set_Converse n) (by kernel_rfl) (by kernel_rfl)

def c7 (n : Nat) : PF Tryd.prog 7 [.i .u16] (.i .i64) := pureC Tryd.func7 Tryd.call7 [(c20 n).e] [] [] [] (relations_Set_Count n) (by kernel_rfl) (by kernel_rfl)

def c21 (n : Nat) : PF Tryd.prog 21 [.i .u8] (.tp [.i .u8, .i .i64]) := pureC Tryd.func21 Tryd.call21 [(c16 n).e] [] [] [] (relations_Mirror n) (by kernel_rfl) (by kernel_rfl)

def c22 (n : Nat) : PF Tryd.prog 22 [.i .u8] (.tp [.i .u16, .i .i64]) := pureC Tryd.func22 Tryd.call22 [(c16 n).e] [] [] [] (relations_One n) (by kernel_rfl) (by kernel_rfl)

def c43 (n : Nat) : PF Tryd.prog 43 [] (.ag [.s, .s, .s, .s, .s, .s, .s, .s, .s, .s, .s, .s, .s, .s]) := pureC Tryd.func43 Tryd.call43 [] [] [] [] (relations_names n) (by kernel_rfl) (by kernel_rfl)

def c23 (n : Nat) : PF Tryd.prog 23 [.i .u8] (.s) := pureC Tryd.func23 Tryd.call23 [(c16 n).e, (c43 n).e] [] [] [] (relations_Name n) (by kernel_rfl) (by kernel_rfl)

def c24 (n : Nat) : PF Tryd.prog 24 [.i .i64] (.s) := pureC Tryd.func24 Tryd.call24 [] [] [] [] (circaref31_Name n) (by kernel_rfl) (by kernel_rfl)

def c10 (n : Nat) : PF Tryd.prog 10 [.i .i64, .i .i64] (.ag [.i .i8, .i .i64, .i .i8, .i .i64]) := pureC Tryd.func10 Tryd.call10 [] [] [] [] (circalaw31_run n) (by kernel_rfl) (by kernel_rfl)

def c53 (n : Nat) : PF Tryd.prog 53 [.ag [.i .i8, .i .i64]] (.i .i64) := pureC Tryd.func53 Tryd.call53 [] [] [] [] (ends_Check n) (by kernel_rfl) (by kernel_rfl)

def c44 (n : Nat) : PF Tryd.prog 44 [.ag [.i .i8, .i .i64, .i .i8, .i .i64]] (.i .i64) := pureC Tryd.func44 Tryd.call44 [(c53 n).e, (c52 n).e] [] [] [] (runs_Check n) (by kernel_rfl) (by kernel_rfl)

def c27 (n : Nat) : PF Tryd.prog 27 [.ag [.i .i8, .i .i64, .i .i8, .i .i64], .ag [.i .i8, .i .i64, .i .i8, .i .i64]] (.tp [.i .u8, .i .i64]) := pureC Tryd.func27 Tryd.call27 [(c44 n).e, (c39 n).e] [] [] [] (relations_Of n) (by kernel_rfl) (by kernel_rfl)

def c9 (n : Nat) : PF Tryd.prog 9 [.ag [.i .i8, .i .i64, .i .i8, .i .i64], .ag [.i .i8, .i .i64, .i .i8, .i .i64], .i .u8] (.i .i64) := pureC Tryd.func9 Tryd.call9 [(c27 n).e] [] [] [] (circalaw31_is n) (by kernel_rfl) (by kernel_rfl)

noncomputable def e_lib_47 (_n : Nat) : Ent := joinE 47
theorem ok_lib_47 (n : Nat) : EntOK Tryd.prog (e_lib_47 n) := joinE_ok Tryd.call47 Tryd.strings_Join_none Tryd.strings_Join
def c47 (n : Nat) : FE Tryd.prog := libF (ok_lib_47 n)

def c32E (n : Nat) : List (FE Tryd.prog) := [(c41 n).e, (c20 n).e, (c23 n).e, (c47 n)]
def c32l0 (n : Nat) : LP Tryd.prog Tryd.f32.ntmps := loopC (c32E n) [] 0 (sb (acM [] [] Tryd.f32) 0) ⟨[(4, .ws 1), (13, .rs 1 0 0 .q (some .q)), (14, .i .i64), (15, .i .i64)], [(0, .rows [.i .u8]), (1, .rows [.s])], 2, 0, 0, 0⟩ [.nilT 4 1 [.s]] [⟨.exit 0, ⟨[(4, .ws 1)], [(1, .rows [.s])], 2, 0, 0, 0⟩⟩] (relations_Set_Text_l0 n) n (by kernel_rfl) (by kernel_rfl)
def c32 (n : Nat) : PF Tryd.prog 32 [.i .u16] (.tp [.s, .i .i64]) := pureC Tryd.func32 Tryd.call32 (c32E n) [c32l0 n] [] [] (relations_Set_Text n) (by kernel_rfl) (by kernel_rfl)

def c72 (_n : Nat) : FE Tryd.prog := libF (countE_ok Tryd.func72 (by kernel_rfl) (by kernel_rfl) (by kernel_rfl) (by kernel_rfl))

def c64 (n : Nat) : PF Tryd.prog 64 [.s, .sk [44]] (.i .i64) := pureC Tryd.func64 Tryd.call64 [(c72 n)] [noL 0 (sb (acM [] [] Tryd.f64) 0)] [] [] (strings_Count n) (by kernel_rfl) (by kernel_rfl)

def c79 (_n : Nat) : FE Tryd.prog := libF (indexE_ok Tryd.func79 (by kernel_rfl) (by kernel_rfl) (by kernel_rfl) (by kernel_rfl))

def c75 (n : Nat) : PF Tryd.prog 75 [.s, .i .u8] (.i .i64) := pureC Tryd.func75 Tryd.call75 [(c79 n)] [] [] [] (int_stringslite_IndexByte n) (by kernel_rfl) (by kernel_rfl)

def c73 (n : Nat) : PF Tryd.prog 73 [.s, .sk [44]] (.i .i64) := pureC Tryd.func73 Tryd.call73 [(c75 n).e] [noL 0 (sb (acM [] [] Tryd.f73) 0)] [] [] (int_stringslite_Index n) (by kernel_rfl) (by kernel_rfl)

def c65 (n : Nat) : PF Tryd.prog 65 [.s, .sk [44]] (.i .i64) := pureC Tryd.func65 Tryd.call65 [(c73 n).e] [] [] [] (strings_Index n) (by kernel_rfl) (by kernel_rfl)

def c57E (n : Nat) : List (FE Tryd.prog) := [(c64 n).e, (c65 n).e]
def c57l0 (n : Nat) : LP Tryd.prog Tryd.f57.ntmps := loopC (c57E n) [] 0 (sb (acM [] [] Tryd.f57) 0) ⟨[(0, .s), (1, .sk [44]), (2, .i .i64), (3, .i .i64), (9, .ws 0), (10, .i .i64)], [(0, .rows [.s])], 1, 0, 0, 0⟩ [] [⟨.exit 0, ⟨[(0, .s), (9, .ws 0), (10, .i .i64)], [(0, .rows [.s])], 1, 0, 0, 0⟩⟩] (strings_genSplit_l0 n) n (by kernel_rfl) (by kernel_rfl)
def c57 (n : Nat) : FF Tryd.prog 57 [.s, .sk [44], .i .i64, .i .i64] [] 0 0 [⟨.sn, [], [], false⟩, ⟨.rs 1 0 0 .q none, [(0, .rows [.s])], [0], false⟩] := funC Tryd.func57 Tryd.call57 (c57E n) [c57l0 n] [] [] [] (strings_genSplit n) (by kernel_rfl) (by kernel_rfl)

def c48 (n : Nat) : FF Tryd.prog 48 [.s, .sk [44]] [] 0 0 [⟨.sn, [], [], false⟩, ⟨.rs 1 0 0 .q none, [(0, .rows [.s])], [0], false⟩] := funC Tryd.func48 Tryd.call48 [(c57 n).e] [] [] [] [] (strings_Split n) (by kernel_rfl) (by kernel_rfl)

def c49l0 (n : Nat) : LP Tryd.prog Tryd.f49.ntmps := loopC [] [] 0 (sb (acM [] [] Tryd.f49) 0) ⟨[(0, .sl 0 1 13 (some (.k 13))), (1, .s), (7, .i .i64), (8, .i .i64)], [(0, .cells [.s, .s, .s, .s, .s, .s, .s, .s, .s, .s, .s, .s, .s, .s])], 1, 1, 1, 1⟩ [] [⟨.ret, ⟨[(4, .i .i64)], [], 1, 1, 1, 1⟩⟩, ⟨.exit 0, ⟨[], [], 1, 1, 1, 1⟩⟩] (slices_Index_string_string_l0 n) n (by kernel_rfl) (by kernel_rfl)
def c49 (n : Nat) : FF Tryd.prog 49 [.sl 0 1 13 (some (.k 13)), .s] [.cells [.s, .s, .s, .s, .s, .s, .s, .s, .s, .s, .s, .s, .s, .s]] 1 1 [⟨.i .i64, [], [], false⟩] := funC Tryd.func49 Tryd.call49 [] [c49l0 n] [] [] [0] (slices_Index_string_string n) (by kernel_rfl) (by kernel_rfl)

def c33E (n : Nat) : List (FE Tryd.prog) := [(c43 n).e, (c48 n).e, (c32 n).e, (c49 n).e]
def c33l0 (n : Nat) : LP Tryd.prog Tryd.f33.ntmps := loopC (c33E n) [] 0 (sb (acM [] [] Tryd.f33) 0) ⟨[(0, .s), (4, .i .u16), (5, .p 0 0), (13, .sn), (14, .i .i64), (15, .i .i64)], [(0, .cells [.s, .s, .s, .s, .s, .s, .s, .s, .s, .s, .s, .s, .s, .s])], 1, 0, 0, 0⟩ [] [⟨.exit 0, ⟨[(0, .s), (4, .i .u16)], [], 1, 0, 0, 0⟩⟩] (relations_Parse_l0 n) n (by kernel_rfl) (by kernel_rfl)
def c33l0a (n : Nat) : LP Tryd.prog Tryd.f33.ntmps := loopC (c33E n) [] 0 (sb (acM [] [] Tryd.f33) 0) ⟨[(0, .s), (4, .i .u16), (5, .p 0 0), (13, .rs 1 1 0 .q none), (14, .i .i64), (15, .i .i64)], [(0, .cells [.s, .s, .s, .s, .s, .s, .s, .s, .s, .s, .s, .s, .s, .s]), (1, .rows [.s])], 2, 0, 0, 0⟩ [] [⟨.ret, ⟨[(2, .i .u16), (3, .i .i64)], [], 2, 0, 0, 0⟩⟩, ⟨.exit 0, ⟨[(0, .s), (4, .i .u16)], [], 2, 0, 0, 0⟩⟩] (relations_Parse_l0a n) n (by kernel_rfl) (by kernel_rfl)
def c33 (n : Nat) : PF Tryd.prog 33 [.s] (.tp [.i .u16, .i .i64]) := pureC Tryd.func33 Tryd.call33 (c33E n) [altL (c33l0 n) (c33l0a n) rfl] [] [] (relations_Parse n) (by kernel_rfl) (by kernel_rfl)

def c14 (n : Nat) : PF Tryd.prog 14 [] (.b) := pureC Tryd.func14 Tryd.call14 [(c10 n).e, (c9 n).e, (c5 n).e, (c21 n).e, (c19 n).e, (c32 n).e, (c33 n).e] [] [] [] (circalaw31_lives n) (by kernel_rfl) (by kernel_rfl)

def c25E (n : Nat) : List (FE Tryd.prog) := [(c15 n).e]
def c25l1 (n : Nat) : LP Tryd.prog Tryd.f25.ntmps := loopC (c25E n) [] 1 (sb (sb (acM [] [] Tryd.f25) 0).body 1) ⟨[(0, .i .i64), (3, .i .i64), (4, .i .i64)], [], 0, 0, 0, 0⟩ [] [⟨.ret, ⟨[(2, .i .i64)], [], 0, 0, 0, 0⟩⟩, ⟨.exit 2, ⟨[(0, .i .i64), (3, .i .i64)], [], 0, 0, 0, 0⟩⟩] (circaref31_Mirror_l1 n) n (by kernel_rfl) (by kernel_rfl)
def c25l0 (n : Nat) : LP Tryd.prog Tryd.f25.ntmps := loopC (c25E n) [c25l1 n] 0 (sb (acM [] [] Tryd.f25) 0) ⟨[(0, .i .i64), (3, .i .i64)], [], 0, 0, 0, 0⟩ [] [⟨.ret, ⟨[(2, .i .i64)], [], 0, 0, 0, 0⟩⟩, ⟨.exit 0, ⟨[], [], 0, 0, 0, 0⟩⟩] (circaref31_Mirror_l0 n) n (by kernel_rfl) (by kernel_rfl)
def c25 (n : Nat) : PF Tryd.prog 25 [.i .i64] (.i .i64) := pureC Tryd.func25 Tryd.call25 (c25E n) [c25l0 n] [] [] (circaref31_Mirror n) (by kernel_rfl) (by kernel_rfl)

def c8 (n : Nat) : PF Tryd.prog 8 [.i .u8, .i .u8] (.b) := pureC Tryd.func8 Tryd.call8 [(c19 n).e, (c21 n).e, (c22 n).e, (c5 n).e, (c23 n).e, (c24 n).e, (c14 n).e, (c25 n).e, (c26 n).e, (c7 n).e] [] [] [] (circalaw31_RelationsNames n) (by kernel_rfl) (by kernel_rfl)

def c45 (n : Nat) : PF Tryd.prog 45 [.ag [.i .i8, .i .i64]] (.i .i64) := pureC Tryd.func45 Tryd.call45 [] [] [] [] (circaref31_End n) (by kernel_rfl) (by kernel_rfl)

def c28 (n : Nat) : PF Tryd.prog 28 [.ag [.i .i8, .i .i64, .i .i8, .i .i64]] (.i .i64) := pureC Tryd.func28 Tryd.call28 [(c45 n).e, (c46 n).e] [] [] [] (circaref31_Run n) (by kernel_rfl) (by kernel_rfl)

def c11 (n : Nat) : PF Tryd.prog 11 [.ag [.i .i8, .i .i64, .i .i8, .i .i64], .ag [.i .i8, .i .i64, .i .i8, .i .i64]] (.b) := pureC Tryd.func11 Tryd.call11 [(c27 n).e, (c28 n).e, (c14 n).e, (c19 n).e, (c15 n).e] [] [] [] (circalaw31_RelationsOf n) (by kernel_rfl) (by kernel_rfl)

def c29 (n : Nat) : PF Tryd.prog 29 [.i .i64, .i .i64] (.i .i64) := pureC Tryd.func29 Tryd.call29 [] [] [] [] (circaref31_Has n) (by kernel_rfl) (by kernel_rfl)

def c18_1E (n : Nat) : List (FE Tryd.prog) := [(c41 n).e, (c20 n).e, (c21 n).e]
def c18_1l0 (n : Nat) : LP Tryd.prog Tryd.f18.ntmps := loopC (c18_1E n) [] 0 (sb (acM [] [] Tryd.f18) 0) ⟨[(1, .fn 21 []), (6, .i .u16), (15, .rs 1 0 0 .q (some .q)), (16, .i .i64), (17, .i .i64)], [(0, .rows [.i .u8])], 1, 0, 0, 0⟩ [] [⟨.exit 0, ⟨[(6, .i .u16)], [], 1, 0, 0, 0⟩⟩] (relations_Set_each_v2_l0 n) n (by kernel_rfl) (by kernel_rfl)
def c18_1 (n : Nat) : PF Tryd.prog 18 [.i .u16, .fn 21 []] (.tp [.i .u16, .i .i64]) := pureC Tryd.func18 Tryd.call18 (c18_1E n) [c18_1l0 n] [] [] (relations_Set_each_v2 n) (by kernel_rfl) (by kernel_rfl)

def c30 (n : Nat) : PF Tryd.prog 30 [.i .u16] (.tp [.i .u16, .i .i64]) := pureC Tryd.func30 Tryd.call30 [(c18_1 n).e] [] [] [] (relations_Set_Mirror n) (by kernel_rfl) (by kernel_rfl)

def c31E (n : Nat) : List (FE Tryd.prog) := [(c41 n).e, (c20 n).e, (c17 n).e]
def c31l1 (n : Nat) : LP Tryd.prog Tryd.f31.ntmps := loopC (c31E n) [] 1 (sb (sb (acM [] [] Tryd.f31) 0).body 1) ⟨[(1, .i .u16), (6, .i .u16), (8, .i .u8), (20, .rs 1 0 0 .q (some .q)), (21, .i .i64), (22, .i .i64), (27, .rs 1 1 0 .q (some .q)), (28, .i .i64), (29, .i .i64)], [(0, .rows [.i .u8]), (1, .rows [.i .u8])], 2, 0, 0, 0⟩ [] [⟨.exit 2, ⟨[(1, .i .u16), (6, .i .u16), (20, .rs 1 0 0 .q (some .q)), (21, .i .i64), (22, .i .i64)], [(0, .rows [.i .u8])], 2, 0, 0, 0⟩⟩] (relations_Set_Compose_l1 n) n (by kernel_rfl) (by kernel_rfl)
def c31l0 (n : Nat) : LP Tryd.prog Tryd.f31.ntmps := loopC (c31E n) [c31l1 n] 0 (sb (acM [] [] Tryd.f31) 0) ⟨[(1, .i .u16), (6, .i .u16), (20, .rs 1 0 0 .q (some .q)), (21, .i .i64), (22, .i .i64)], [(0, .rows [.i .u8])], 1, 0, 0, 0⟩ [] [⟨.exit 0, ⟨[(6, .i .u16)], [], 1, 0, 0, 0⟩⟩] (relations_Set_Compose_l0 n) n (by kernel_rfl) (by kernel_rfl)
def c31 (n : Nat) : PF Tryd.prog 31 [.i .u16, .i .u16] (.tp [.i .u16, .i .i64]) := pureC Tryd.func31 Tryd.call31 (c31E n) [c31l0 n] [] [] (relations_Set_Compose n) (by kernel_rfl) (by kernel_rfl)

def c12E (n : Nat) : List (FE Tryd.prog) := [(c20 n).e, (c26 n).e, (c29 n).e, (c7 n).e, (c6 n).e, (c30 n).e, (c31 n).e, (c14 n).e, (c5 n).e]
def c12l0 (n : Nat) : LP Tryd.prog Tryd.f12.ntmps := loopC (c12E n) [] 0 (sb (acM [] [] Tryd.f12) 0) ⟨[(0, .i .u16), (1, .i .u16), (5, .i .u16), (6, .i .u16), (7, .rs 1 0 0 .q (some .q)), (8, .i .i64), (9, .i .i64)], [(0, .rows [.i .u8])], 1, 0, 0, 0⟩ [] [⟨.ret, ⟨[(4, .b)], [], 1, 0, 0, 0⟩⟩, ⟨.exit 0, ⟨[(0, .i .u16), (1, .i .u16), (5, .i .u16), (6, .i .u16), (7, .rs 1 0 0 .q (some .q)), (8, .i .i64)], [(0, .rows [.i .u8])], 1, 0, 0, 0⟩⟩] (circalaw31_RelationsSets_l0 n) n (by kernel_rfl) (by kernel_rfl)
def c12l2 (n : Nat) : LP Tryd.prog Tryd.f12.ntmps := loopC (c12E n) [] 2 (sb (sb (acM [] [] Tryd.f12) 1).body 2) ⟨[(5, .i .u16), (6, .i .u16), (10, .i .u16), (14, .i .u16), (15, .i .i64), (18, .i .u16), (19, .i .i64), (20, .i .i64)], [], 1, 0, 0, 0⟩ [] [⟨.ret, ⟨[(4, .b)], [], 1, 0, 0, 0⟩⟩, ⟨.exit 4, ⟨[(5, .i .u16), (6, .i .u16), (10, .i .u16), (14, .i .u16), (15, .i .i64), (18, .i .u16), (19, .i .i64)], [], 1, 0, 0, 0⟩⟩] (circalaw31_RelationsSets_l2 n) n (by kernel_rfl) (by kernel_rfl)
def c12l1 (n : Nat) : LP Tryd.prog Tryd.f12.ntmps := loopC (c12E n) [c12l2 n] 1 (sb (acM [] [] Tryd.f12) 1) ⟨[(5, .i .u16), (6, .i .u16), (10, .i .u16), (14, .i .u16), (15, .i .i64), (18, .i .u16), (19, .i .i64)], [], 1, 0, 0, 0⟩ [] [⟨.ret, ⟨[(4, .b)], [], 1, 0, 0, 0⟩⟩, ⟨.exit 2, ⟨[(14, .i .u16), (15, .i .i64), (18, .i .u16)], [], 1, 0, 0, 0⟩⟩] (circalaw31_RelationsSets_l1 n) n (by kernel_rfl) (by kernel_rfl)
def c12 (n : Nat) : PF Tryd.prog 12 [.i .u16, .i .u16] (.b) := pureC Tryd.func12 Tryd.call12 (c12E n) [c12l0 n, c12l1 n] [] [] (circalaw31_RelationsSets n) (by kernel_rfl) (by kernel_rfl)

def c34E (n : Nat) : List (FE Tryd.prog) := [(c29 n).e, (c24 n).e]
def c34l0 (n : Nat) : LP Tryd.prog Tryd.f34.ntmps := loopC (c34E n) [] 0 (sb (acM [] [] Tryd.f34) 0) ⟨[(0, .i .i64), (3, .s), (4, .i .i64)], [], 0, 0, 0, 0⟩ [] [⟨.exit 0, ⟨[(3, .s)], [], 0, 0, 0, 0⟩⟩] (circaref31_Text_l0 n) n (by kernel_rfl) (by kernel_rfl)
def c34 (n : Nat) : PF Tryd.prog 34 [.i .i64] (.s) := pureC Tryd.func34 Tryd.call34 (c34E n) [c34l0 n] [] [] (circaref31_Text n) (by kernel_rfl) (by kernel_rfl)

def c13 (n : Nat) : PF Tryd.prog 13 [.i .u16, .s] (.b) := pureC Tryd.func13 Tryd.call13 [(c14 n).e, (c32 n).e, (c33 n).e, (c34 n).e] [] [] [] (circalaw31_RelationsText n) (by kernel_rfl) (by kernel_rfl)

def c3E (n : Nat) : List (FE Tryd.prog) := [(c4 n).e, (c5 n).e, (c6 n).e, (c7 n).e, (c8 n).e, (c10 n).e, (c9 n).e, (c11 n).e, (c12 n).e, (c13 n).e, (c14 n).e]
def c3l1 (n : Nat) : LP Tryd.prog Tryd.f3.ntmps := loopC (c3E n) [] 1 (sb (sb (acM [] [] Tryd.f3) 0).body 1) ⟨[(1, .ws 0), (2, .i .i64), (3, .i .i64), (4, .i .i64)], [(0, .rows [.i .i64])], 1, 0, 0, 0⟩ [] [⟨.ret, ⟨[(0, .b)], [], 1, 0, 0, 0⟩⟩, ⟨.exit 2, ⟨[(1, .ws 0), (2, .i .i64), (3, .i .i64)], [(0, .rows [.i .i64])], 1, 0, 0, 0⟩⟩] (circalaw31_RelationsKnown_l1 n) n (by kernel_rfl) (by kernel_rfl)
def c3l0 (n : Nat) : LP Tryd.prog Tryd.f3.ntmps := loopC (c3E n) [c3l1 n] 0 (sb (acM [] [] Tryd.f3) 0) ⟨[(1, .ws 0), (2, .i .i64), (3, .i .i64)], [(0, .rows [.i .i64])], 1, 0, 0, 0⟩ [] [⟨.ret, ⟨[(0, .b)], [], 1, 0, 0, 0⟩⟩, ⟨.exit 0, ⟨[(2, .i .i64)], [], 1, 0, 0, 0⟩⟩] (circalaw31_RelationsKnown_l0 n) n (by kernel_rfl) (by kernel_rfl)
def c3l3 (n : Nat) : LP Tryd.prog Tryd.f3.ntmps := loopC (c3E n) [] 3 (sb (sb (acM [] [] Tryd.f3) 2).body 3) ⟨[(16, .ws 354), (17, .i .i64), (18, .i .i64)], [(354, .rows [.i .i8, .i .i64, .i .i8, .i .i64])], 370, 0, 0, 0⟩ [] [⟨.ret, ⟨[(0, .b)], [], 370, 0, 0, 0⟩⟩, ⟨.exit 6, ⟨[(16, .ws 354), (17, .i .i64)], [(354, .rows [.i .i8, .i .i64, .i .i8, .i .i64])], 370, 0, 0, 0⟩⟩] (circalaw31_RelationsKnown_l3 n) n (by kernel_rfl) (by kernel_rfl)
def c3l2 (n : Nat) : LP Tryd.prog Tryd.f3.ntmps := loopC (c3E n) [c3l3 n] 2 (sb (acM [] [] Tryd.f3) 2) ⟨[(16, .ws 354), (17, .i .i64)], [(354, .rows [.i .i8, .i .i64, .i .i8, .i .i64])], 370, 0, 0, 0⟩ [] [⟨.ret, ⟨[(0, .b)], [], 370, 0, 0, 0⟩⟩, ⟨.exit 4, ⟨[], [], 370, 0, 0, 0⟩⟩] (circalaw31_RelationsKnown_l2 n) n (by kernel_rfl) (by kernel_rfl)
def c3 (n : Nat) : PF Tryd.prog 3 [] (.b) := pureC Tryd.func3 Tryd.call3 (c3E n) [c3l0 n, c3l2 n] [] [] (circalaw31_RelationsKnown n) (by kernel_rfl) (by kernel_rfl)
theorem pure_circalaw31_RelationsKnown (n : Nat) : ∀ a r, circalaw31_RelationsKnown n = some r → PureOK Tryd.prog 3 (argP [] a) (encP (.b) r) := fun a r h => (c3 n).ok a r h

end
end Go.Sh
