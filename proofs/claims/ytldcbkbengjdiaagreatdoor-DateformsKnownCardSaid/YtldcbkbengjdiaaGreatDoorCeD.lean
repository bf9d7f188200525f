/- Each function of the program computes its plain function: the certificates.
   Conditions: none. Printed by the bench tool gen.py. -/
import Derived.Test.YtldcbkbengjdiaaGreatDoorShD
import Derived.Test.YtldcbkbengjdiaaGreatDoorProg
import Derived.Test.YtldcbkbengjdiaaGreatDoorAbsX
import Derived.Test.YtldcbkbengjdiaaGreatDoorAbsU
import Derived.Test.YtldcbkbengjdiaaGreatDoorAbsW
import Derived.KernelRfl
import Derived.Test.YtldcbkbengjdiaaGreatDoorAbsPat
import Derived.Test.YtldcbkbengjdiaaGreatDoorShelf
import Derived.Test.YtldcbkbengjdiaaGreatDoorHGa
import Derived.Test.YtldcbkbengjdiaaGreatDoorHGb
import Derived.Test.YtldcbkbengjdiaaGreatDoorHGe
import Derived.Test.YtldcbkbengjdiaaGreatDoorHGm
import Derived.Test.YtldcbkbengjdiaaGreatDoorHGs
set_option linter.unusedVariables false
set_option linter.unusedSimpArgs false
set_option maxRecDepth 100000
set_option maxHeartbeats 4000000
namespace Go.Sh
open Go.Abs Go.Proofs
noncomputable section

def c159 (n : Nat) : FF Tryz.prog 159 [.p 0 0] [.cells [.s, .i .i64]] 1 1 [⟨.s, [], [], false⟩] := funC Tryz.func159 Tryz.call159 [] [] [] [0] (cursors_Cursor_Rest n) (by kernel_rfl)

def c102 (n : Nat) : FF Tryz.prog 102 [.p 0 0] [.cells [.s, .i .i64]] 1 1 [⟨.tp [.i .u8, .b], [], [], false⟩] := funC Tryz.func102 Tryz.call102 [(c159 n).e] [] [] [0] (cursors_Cursor_Peek n) (by kernel_rfl)

def c120 (n : Nat) : PF Tryz.prog 120 [] (.ag [.s, .s, .s, .s]) := pureC Tryz.func120 Tryz.call120 [] [] [] (marks_texts n) (by kernel_rfl)

def c160l0 (n : Nat) : LP Tryz.prog Tryz.f160.ntmps := loopC [] [] 0 (sb (acU [] Tryz.f160) 0) ⟨[(0, .sl 0 0 4 (some (.k 4))), (1, .s), (7, .i .i64), (8, .i .i64)], [(0, .cells [.s, .s, .s, .s])], 1, 1, 1, 1⟩ [] [⟨.ret, ⟨[(4, .i .i64)], [], 1, 1, 1, 1⟩⟩, ⟨.exit 0, ⟨[], [], 1, 1, 1, 1⟩⟩] (slices_Index_string_string_l0 n) n (by kernel_rfl)
def c160 (n : Nat) : FF Tryz.prog 160 [.sl 0 0 4 (some (.k 4)), .s] [.cells [.s, .s, .s, .s]] 1 1 [⟨.i .i64, [], [], false⟩] := funC Tryz.func160 Tryz.call160 [] [c160l0 n] [] [0] (slices_Index_string_string n) (by kernel_rfl)

def c103 (n : Nat) : PF Tryz.prog 103 [.i .u8] (.tp [.i .u8, .b]) := pureC Tryz.func103 Tryz.call103 [(c120 n).e, (c160 n).e] [] [] (marks_Of n) (by kernel_rfl)

def c68 (n : Nat) : FF Tryz.prog 68 [.p 0 0] [.cells [.s, .i .i64]] 1 1 [⟨.i .i64, [], [], false⟩] := funC Tryz.func68 Tryz.call68 [] [] [] [0] (cursors_Cursor_At n) (by kernel_rfl)

def c162 (n : Nat) : FF Tryz.prog 162 [.p 0 0, .i .i64, .i .i64] [.cells [.s, .i .i64]] 1 1 [⟨.it 125 (.ag [.i .i64, .i .i64]), [], [], true⟩] := funC Tryz.func162 Tryz.call162 [] [] [] [0] (cursors_Cursor_Fail n) (by kernel_rfl)

def c239 (_n : Nat) : FE Tryz.prog := libF (indexE_ok Tryz.func239 (by kernel_rfl) (by kernel_rfl) (by kernel_rfl) (by kernel_rfl))

def c196 (n : Nat) : PF Tryz.prog 196 [.s, .i .u8] (.i .i64) := pureC Tryz.func196 Tryz.call196 [(c239 n)] [] [] (int_stringslite_IndexByte n) (by kernel_rfl)

def c161 (n : Nat) : PF Tryz.prog 161 [.s, .i .u8] (.i .i64) := pureC Tryz.func161 Tryz.call161 [(c196 n).e] [] [] (strings_IndexByte n) (by kernel_rfl)

def c104 (n : Nat) : FF Tryz.prog 104 [.p 0 0, .s] [.cells [.s, .i .i64]] 0 1 [⟨.it 125 (.ag [.i .i64, .i .i64]), [(0, .cells [.s, .i .i64])], [], true⟩, ⟨.i .u8, [(0, .cells [.s, .i .i64])], [], false⟩] := funC Tryz.func104 Tryz.call104 [(c102 n).e, (c68 n).e, (c162 n).e, (c161 n).e] [] [] [0] (cursors_Cursor_One n) (by kernel_rfl)

def c101 (n : Nat) : FF Tryz.prog 101 [.p 0 0] [.cells [.p 1 0], .cells [.s, .i .i64]] 1 2 [⟨.it 125 (.ag [.i .i64, .i .i64]), [(1, .cells [.s, .i .i64])], [], true⟩, ⟨.i .u8, [(1, .cells [.s, .i .i64])], [], false⟩] := funC Tryz.func101 Tryz.call101 [(c102 n).e, (c103 n).e, (c104 n).e] [] [] [0, 1] (dateforms_Read_1 n) (by kernel_rfl)

def c223 (n : Nat) : PF Tryz.prog 223 [.s, .s] (.b) := pureC Tryz.func223 Tryz.call223 [] [] [] (int_stringslite_HasPrefix n) (by kernel_rfl)

def c182 (n : Nat) : PF Tryz.prog 182 [.s, .s] (.b) := pureC Tryz.func182 Tryz.call182 [(c223 n).e] [] [] (strings_HasPrefix n) (by kernel_rfl)

def c130 (n : Nat) : FF Tryz.prog 130 [.p 0 0, .s] [.cells [.s, .i .i64]] 1 1 [⟨.b, [], [], false⟩] := funC Tryz.func130 Tryz.call130 [(c159 n).e, (c182 n).e] [] [] [0] (cursors_Cursor_Is n) (by kernel_rfl)

def c69 (n : Nat) : FF Tryz.prog 69 [.p 0 0, .s] [.cells [.s, .i .i64]] 0 1 [⟨.b, [(0, .cells [.s, .i .i64])], [], false⟩] := funC Tryz.func69 Tryz.call69 [(c130 n).e] [] [] [0] (cursors_Cursor_Take n) (by kernel_rfl)

def c105E (n : Nat) : List (FE Tryz.prog) := [(c68 n).e, (c102 n).e, (c161 n).e, (c162 n).e]
def c105l0 (n : Nat) : LP Tryz.prog Tryz.f105.ntmps := loopC (c105E n) [] 0 (sb (acU [] Tryz.f105) 0) ⟨[(0, .p 0 0), (1, .s), (2, .i .i64), (3, .i .i64), (9, .i .i64), (10, .i .u8), (11, .b)], [(0, .cells [.s, .i .i64])], 1, 1, 0, 1⟩ [] [⟨.exit 0, ⟨[(0, .p 0 0), (2, .i .i64), (9, .i .i64)], [(0, .cells [.s, .i .i64])], 1, 1, 0, 1⟩⟩] (cursors_Cursor_Some_l0 n) n (by kernel_rfl)
def c105 (n : Nat) : FF Tryz.prog 105 [.p 0 0, .s, .i .i64, .i .i64] [.cells [.s, .i .i64]] 0 1 [⟨.it 125 (.ag [.i .i64, .i .i64]), [(0, .cells [.s, .i .i64])], [], true⟩, ⟨.s, [(0, .cells [.s, .i .i64])], [], false⟩] := funC Tryz.func105 Tryz.call105 (c105E n) [c105l0 n] [] [0] (cursors_Cursor_Some n) (by kernel_rfl)

noncomputable def e_lib_65 (_n : Nat) : Ent := atoiF 65 239
theorem ok_lib_65 (n : Nat) : EntOK Tryz.prog (e_lib_65 n) := atoiF_ok Tryz.call65 (fun s n hl h w => (Tryz.strconv_Atoi s n hl h w).mono fun e w' ⟨h1, t, h2⟩ => ⟨h1, h2 ▸ bytesWorld_below _ _ _⟩) (fun s hl h w hg => atoi_err s hl h w hg)
def c65 (n : Nat) : FE Tryz.prog := libF (ok_lib_65 n)

def c163 (n : Nat) : FF Tryz.prog 163 [.s, .p 0 0] [.cells [.p 1 0], .cells [.s, .i .i64]] 1 2 [⟨.i .i64, [(1, .cells [.s, .i .i64])], [], false⟩, ⟨.it 125 (.ag [.i .i64, .i .i64]), [(1, .cells [.s, .i .i64])], [], true⟩] := funC Tryz.func163 Tryz.call163 [(c69 n).e, (c104 n).e, (c105 n).e, (c65 n)] [] [] [0, 1] (yearforms_Read_1 n) (by kernel_rfl)

def c108 (n : Nat) : FF Tryz.prog 108 [.p 0 0] [.cells [.s, .i .i64]] 0 1 [⟨.it 125 (.ag [.i .i64, .i .i64]), [(0, .cells [.s, .i .i64])], [], true⟩, ⟨.ag [.b, .b, .s, .i .i64, .i .i64], [(0, .cells [.s, .i .i64])], [], false⟩] := funC Tryz.func108 Tryz.call108 [(c69 n).e, (c104 n).e, (c105 n).e, (c163 n).e] [] [] [0] (yearforms_Read n) (by kernel_rfl)

def c107 (n : Nat) : FF Tryz.prog 107 [.p 0 0, .p 1 0] [.cells [.p 2 0], .cells [.b, .b, .s, .i .i64, .i .i64, .s, .s, .i .u8, .i .u8, .i .u8], .cells [.s, .i .i64]] 1 3 [⟨.it 125 (.ag [.i .i64, .i .i64]), [(1, .cells [.b, .b, .s, .i .i64, .i .i64, .s, .s, .i .u8, .i .u8, .i .u8]), (2, .cells [.s, .i .i64])], [], true⟩, ⟨.tp [], [(1, .cells [.b, .b, .s, .i .i64, .i .i64, .s, .s, .i .u8, .i .u8, .i .u8]), (2, .cells [.s, .i .i64])], [], false⟩] := funC Tryz.func107 Tryz.call107 [(c108 n).e] [] [] [0, 1, 2] (dateforms_Read_3 n) (by kernel_rfl)

def c119 (n : Nat) : PF Tryz.prog 119 [.i .u8] (.i .i64) := pureC Tryz.func119 Tryz.call119 [] [] [] (marks_Check n) (by kernel_rfl)

def c58E (n : Nat) : List (FE Tryz.prog) := [(c119 n).e]
def c58l0 (n : Nat) : LP Tryz.prog Tryz.f58.ntmps := loopC (c58E n) [] 0 (sb (acU [] Tryz.f58) 0) ⟨[(1, .i .i64), (13, .ai .u8 3), (14, .i .i64)], [], 1, 0, 0, 0⟩ [] [⟨.ret, ⟨[(4, .i .i64)], [], 1, 0, 0, 0⟩⟩, ⟨.exit 0, ⟨[], [], 1, 0, 0, 0⟩⟩] (marks_All_l0 n) n (by kernel_rfl)
def c58 (n : Nat) : PF Tryz.prog 58 [.ai .u8 3, .i .i64] (.i .i64) := pureC Tryz.func58 Tryz.call58 (c58E n) [c58l0 n] [] (marks_All n) (by kernel_rfl)

def c164 (n : Nat) : FF Tryz.prog 164 [.i .i64, .p 2 0, .p 0 0, .p 1 0] [.ints .u8 3, .ints .u8 3, .cells [.i .u8]] 2 3 [⟨.i .u8, [(2, .cells [.i .u8])], [], false⟩] := funC Tryz.func164 Tryz.call164 [] [] [] [2, 0, 1] (marks_Spread_1 n) (by kernel_rfl)

def c111E (n : Nat) : List (FE Tryz.prog) := [(c58 n).e, (c164 n).e]
def c111l1 (n : Nat) : LP Tryz.prog Tryz.f111.ntmps := loopC (c111E n) [] 1 (sb (acU [0] Tryz.f111) 1) ⟨[(6, .p 2 0), (12, .fn 164 [.p 5 0, .p 1 0, .p 0 0]), (13, .p 6 0), (14, .i .i64)], [(0, .ints .u8 3), (1, .ints .u8 3), (2, .ints .u8 3), (5, .cells [.i .u8]), (6, .ints .u8 3)], 7, 0, 0, 0⟩ [] [⟨.exit 2, ⟨[(6, .p 2 0), (13, .p 6 0)], [(2, .ints .u8 3), (6, .ints .u8 3)], 7, 0, 0, 0⟩⟩] (marks_Spread_l1 n) n (by kernel_rfl)
def c111 (n : Nat) : PF Tryz.prog 111 [.ai .u8 3, .ai .u8 3, .i .i64] (.tp [.ai .u8 3, .i .i64]) := pureC Tryz.func111 Tryz.call111 (c111E n) [c111l1 n] [0] (marks_Spread n) (by kernel_rfl)

def c106 (n : Nat) : FF Tryz.prog 106 [.p 0 0] [.cells [.fn 1000105 [.p 1 0]], .cells [.s, .i .i64]] 1 2 [⟨.it 125 (.ag [.i .i64, .i .i64]), [(1, .cells [.s, .i .i64])], [], true⟩, ⟨.s, [(1, .cells [.s, .i .i64])], [], false⟩] := funC Tryz.func106 Tryz.call106 [(c105 n).e] [] [] [0, 1] (dateforms_Read_2 n) (by kernel_rfl)

def c109 (n : Nat) : FF Tryz.prog 109 [.p 0 0, .p 2 0] [.cells [.fn 106 [.p 1 0]], .cells [.fn 1000105 [.p 3 0]], .cells [.b, .b, .s, .i .i64, .i .i64, .s, .s, .i .u8, .i .u8, .i .u8], .cells [.s, .i .i64]] 2 4 [⟨.it 125 (.ag [.i .i64, .i .i64]), [(2, .cells [.b, .b, .s, .i .i64, .i .i64, .s, .s, .i .u8, .i .u8, .i .u8]), (3, .cells [.s, .i .i64])], [], true⟩, ⟨.tp [], [(2, .cells [.b, .b, .s, .i .i64, .i .i64, .s, .s, .i .u8, .i .u8, .i .u8]), (3, .cells [.s, .i .i64])], [], false⟩] := funC Tryz.func109 Tryz.call109 [(c106 n).e] [] [] [0, 2, 1, 3] (dateforms_Read_4 n) (by kernel_rfl)

def c110 (n : Nat) : FF Tryz.prog 110 [.p 0 0, .p 2 0] [.cells [.fn 106 [.p 1 0]], .cells [.fn 1000105 [.p 3 0]], .cells [.b, .b, .s, .i .i64, .i .i64, .s, .s, .i .u8, .i .u8, .i .u8], .cells [.s, .i .i64]] 2 4 [⟨.it 125 (.ag [.i .i64, .i .i64]), [(2, .cells [.b, .b, .s, .i .i64, .i .i64, .s, .s, .i .u8, .i .u8, .i .u8]), (3, .cells [.s, .i .i64])], [], true⟩, ⟨.tp [], [(2, .cells [.b, .b, .s, .i .i64, .i .i64, .s, .s, .i .u8, .i .u8, .i .u8]), (3, .cells [.s, .i .i64])], [], false⟩] := funC Tryz.func110 Tryz.call110 [(c106 n).e] [] [] [0, 2, 1, 3] (dateforms_Read_5 n) (by kernel_rfl)

def c51 (n : Nat) : FF Tryz.prog 51 [.p 0 0] [.cells [.s, .i .i64]] 0 1 [⟨.it 125 (.ag [.i .i64, .i .i64]), [(0, .cells [.s, .i .i64])], [], true⟩, ⟨.tp [.ag [.b, .b, .s, .i .i64, .i .i64, .s, .s, .i .u8, .i .u8, .i .u8], .ai .i64 3], [(0, .cells [.s, .i .i64])], [], false⟩] := funC Tryz.func51 Tryz.call51 [(c101 n).e, (c68 n).e, (c107 n).e, (c111 n).e, (c69 n).e, (c109 n).e, (c110 n).e] [] [0] [0] (dateforms_Read n) (by kernel_rfl)

def c50 (n : Nat) : FF Tryz.prog 50 [.p 0 0, .p 1 0, .p 2 0] [.cells [.s, .i .i64], .cells [.b, .b, .s, .i .i64, .i .i64, .s, .s, .i .u8, .i .u8, .i .u8], .ints .i64 3] 0 3 [⟨.it 125 (.ag [.i .i64, .i .i64]), [(0, .cells [.s, .i .i64]), (1, .cells [.b, .b, .s, .i .i64, .i .i64, .s, .s, .i .u8, .i .u8, .i .u8]), (2, .ints .i64 3)], [], true⟩, ⟨.tp [], [(0, .cells [.s, .i .i64]), (1, .cells [.b, .b, .s, .i .i64, .i .i64, .s, .s, .i .u8, .i .u8, .i .u8]), (2, .ints .i64 3)], [], false⟩] := funC Tryz.func50 Tryz.call50 [(c51 n).e] [] [] [0, 1, 2] (dateforms_Parse_1 n) (by kernel_rfl)

def c25 (n : Nat) : FF Tryz.prog 25 [.s, .fn 50 [.p 0 0, .p 1 0]] [.cells [.b, .b, .s, .i .i64, .i .i64, .s, .s, .i .u8, .i .u8, .i .u8], .ints .i64 3] 0 2 [⟨.tp [.i .i64, .i .i64], [(0, .cells [.b, .b, .s, .i .i64, .i .i64, .s, .s, .i .u8, .i .u8, .i .u8]), (1, .ints .i64 3)], [], false⟩] := funD ⟨(acU [] Tryz.f25), 2, 3, 0, 9, 67, 5⟩ Tryz.func25 Tryz.call25 Tryz.func67 Tryz.call67 [(c50 n).e] [] [] [0, 1] (cursors_Run n) (by kernel_rfl) (by kernel_rfl) (by kernel_rfl)

def c66 (n : Nat) : PF Tryz.prog 66 [.i .i64] (.i .i64) := pureC Tryz.func66 Tryz.call66 [] [] [] (seasons_Check n) (by kernel_rfl)
theorem pure_seasons_Check (n : Nat) : ∀ a r, seasons_Check n a = some r → PureOK Tryz.prog 66 (argP [.i .i64] a) (encP (.i .i64) r) := fun a r h => (c66 n).ok a r h

def c19 (n : Nat) : PF Tryz.prog 19 [.ag [.b, .b, .s, .i .i64, .i .i64, .s, .s, .i .u8, .i .u8, .i .u8]] (.tp [.i .i64, .b]) := pureC Tryz.func19 Tryz.call19 [(c65 n), (c66 n).e] [] [] (dateforms_Season n) (by kernel_rfl)

def c266 (n : Nat) : PF Tryz.prog 266 [.i .i32] (.b) := pureC Tryz.func266 Tryz.call266 [] [] [] (unicode_utf8_ValidRune n) (by kernel_rfl)

def c241E (n : Nat) : List (FE Tryz.prog) := [(c161 n).e, (c266 n).e]
def c241l0 (n : Nat) : LP Tryz.prog Tryz.f241.ntmps := loopC (c241E n) [] 0 (sb (acU [] Tryz.f241) 0) ⟨[(175, .p 0 0)], [(0, .iter)], 1, 0, 0, 0⟩ [] [⟨.ret, ⟨[(4, .i .i64)], [], 1, 0, 0, 0⟩⟩, ⟨.exit 9, ⟨[], [], 1, 0, 0, 0⟩⟩] (strings_IndexRune_l0 n) n (by kernel_rfl)
def c241l2 (n : Nat) : LP Tryz.prog Tryz.f241.ntmps := loopC (c241E n) [] 2 (sb (sb (acU [] Tryz.f241) 1).body 2) ⟨[(0, .s), (7, .s), (8, .i .i64), (9, .i .i64), (12, .i .i64)], [], 128, 0, 0, 0⟩ [] [⟨.exit 3, ⟨[(8, .i .i64), (9, .i .i64)], [], 128, 0, 0, 0⟩⟩] (strings_IndexRune_l2 n) n (by kernel_rfl)
def c241l2a (n : Nat) : LP Tryz.prog Tryz.f241.ntmps := loopC (c241E n) [] 2 (sb (sb (acU [] Tryz.f241) 1).body 2) ⟨[(0, .s), (7, .s), (8, .i .i64), (9, .i .i64), (12, .i .i64)], [], 56, 0, 0, 0⟩ [] [⟨.exit 3, ⟨[(8, .i .i64), (9, .i .i64)], [], 56, 0, 0, 0⟩⟩] (strings_IndexRune_l2a n) n (by kernel_rfl)
def c241l1 (n : Nat) : LP Tryz.prog Tryz.f241.ntmps := loopC (c241E n) [altL (c241l2 n) (c241l2a n) rfl] 1 (sb (acU [] Tryz.f241) 1) ⟨[(0, .s), (7, .s), (8, .i .i64), (9, .i .i64)], [], 0, 0, 0, 0⟩ [] [⟨.ret, ⟨[(4, .i .i64)], [], 0, 0, 0, 0⟩⟩, ⟨.exit 1, ⟨[], [], 0, 0, 0, 0⟩⟩] (strings_IndexRune_l1 n) n (by kernel_rfl)
def c241 (n : Nat) : PF Tryz.prog 241 [.s, .i .i32] (.i .i64) := pureC Tryz.func241 Tryz.call241 (c241E n) [c241l0 n, c241l1 n, noL 3 (sb (acU [] Tryz.f241) 3)] [] (strings_IndexRune n) (by kernel_rfl)

def c199 (n : Nat) : PF Tryz.prog 199 [.s, .i .i32] (.b) := pureC Tryz.func199 Tryz.call199 [(c241 n).e] [] [] (strings_ContainsRune n) (by kernel_rfl)

def c198 (n : Nat) : FF Tryz.prog 198 [.i .i32, .p 0 0] [.cells [.s]] 1 1 [⟨.b, [], [], false⟩] := funC Tryz.func198 Tryz.call198 [(c199 n).e] [] [] [0] (yearforms_only_1 n) (by kernel_rfl)

def c240E (n : Nat) : List (FE Tryz.prog) := [(c198 n).e]
def c240l0 (n : Nat) : LP Tryz.prog Tryz.f240.ntmps := loopC (c240E n) [] 0 (sb (acU [] Tryz.f240) 0) ⟨[(1, .fn 198 [.p 0 0]), (2, .b), (10, .p 1 0)], [(0, .cells [.s]), (1, .iter)], 2, 1, 1, 1⟩ [] [⟨.ret, ⟨[(6, .i .i64)], [], 2, 1, 1, 1⟩⟩, ⟨.exit 0, ⟨[], [], 2, 1, 1, 1⟩⟩] (strings_indexFunc_l0 n) n (by kernel_rfl)
def c240 (n : Nat) : FF Tryz.prog 240 [.s, .fn 198 [.p 0 0], .b] [.cells [.s]] 1 1 [⟨.i .i64, [], [], false⟩] := funC Tryz.func240 Tryz.call240 (c240E n) [c240l0 n] [] [0] (strings_indexFunc n) (by kernel_rfl)

def c197 (n : Nat) : FF Tryz.prog 197 [.s, .fn 198 [.p 0 0]] [.cells [.s]] 1 1 [⟨.i .i64, [], [], false⟩] := funC Tryz.func197 Tryz.call197 [(c240 n).e] [] [] [0] (strings_IndexFunc n) (by kernel_rfl)

def c165 (n : Nat) : PF Tryz.prog 165 [.s, .s] (.b) := pureC Tryz.func165 Tryz.call165 [(c197 n).e] [] [] (yearforms_only n) (by kernel_rfl)

def c201l0 (n : Nat) : LP Tryz.prog Tryz.f201.ntmps := loopC [] [] 0 (sb (acU [] Tryz.f201) 0) ⟨[(0, .s), (1, .i .u8)], [], 0, 0, 0, 0⟩ [] [⟨.exit 0, ⟨[(0, .s)], [], 0, 0, 0, 0⟩⟩] (strings_trimRightByte_l0 n) n (by kernel_rfl)
def c201 (n : Nat) : PF Tryz.prog 201 [.s, .i .u8] (.s) := pureC Tryz.func201 Tryz.call201 [] [c201l0 n] [] (strings_trimRightByte n) (by kernel_rfl)

def c200l0 (n : Nat) : LP Tryz.prog Tryz.f200.ntmps := loopC [] [] 0 (sb (acU [] Tryz.f200) 0) ⟨[(0, .s), (1, .i .u8)], [], 0, 0, 0, 0⟩ [] [⟨.exit 0, ⟨[(0, .s)], [], 0, 0, 0, 0⟩⟩] (strings_trimLeftByte_l0 n) n (by kernel_rfl)
def c200 (n : Nat) : PF Tryz.prog 200 [.s, .i .u8] (.s) := pureC Tryz.func200 Tryz.call200 [] [c200l0 n] [] (strings_trimLeftByte n) (by kernel_rfl)

def c166 (n : Nat) : PF Tryz.prog 166 [.s, .sk [48]] (.s) := pureC Tryz.func166 Tryz.call166 [(c201 n).e, (c200 n).e] [] [] (strings_Trim n) (by kernel_rfl)

def c183 (n : Nat) : PF Tryz.prog 183 [.s, .sk [88]] (.i .i64) := pureC Tryz.func183 Tryz.call183 [(c196 n).e] [noL 0 (sb (acU [] Tryz.f183) 0)] [] (int_stringslite_Index n) (by kernel_rfl)

def c137 (n : Nat) : PF Tryz.prog 137 [.s, .sk [88]] (.i .i64) := pureC Tryz.func137 Tryz.call137 [(c183 n).e] [] [] (strings_Index n) (by kernel_rfl)

def c77 (n : Nat) : PF Tryz.prog 77 [.s, .sk [88]] (.b) := pureC Tryz.func77 Tryz.call77 [(c137 n).e] [] [] (strings_Contains n) (by kernel_rfl)

def c122 (n : Nat) : PF Tryz.prog 122 [.ag [.b, .b, .s, .i .i64, .i .i64]] (.b) := pureC Tryz.func122 Tryz.call122 [(c77 n).e] [] [] (yearforms_Masked n) (by kernel_rfl)

noncomputable def e_lib_210 (_n : Nat) : Ent := parseE 210
theorem ok_lib_210 (n : Nat) : EntOK Tryz.prog (e_lib_210 n) := parseE_ok Tryz.call210 fun s h v hv w => (Tryz.strconv_ParseInt_10_at64_ok s h v hv w).mono fun e w' ⟨h1, h2⟩ => ⟨h1, h2.elim (fun h => h ▸ RowKit.Below.refl _ _) (fun ⟨t, h⟩ => h ▸ bytesWorld_below _ _ _)⟩
def c210 (n : Nat) : FE Tryz.prog := libF (ok_lib_210 n)

def c211l0 (n : Nat) : LP Tryz.prog Tryz.f211.ntmps := loopC [] [] 0 (sb (acU [] Tryz.f211) 0) ⟨[(4, .i .i64), (9, .i .i64), (10, .i .i64)], [], 0, 0, 0, 0⟩ [] [⟨.exit 0, ⟨[(4, .i .i64)], [], 0, 0, 0, 0⟩⟩] (ints_Pow10_l0 n) n (by kernel_rfl)
def c211 (n : Nat) : PF Tryz.prog 211 [.i .i64] (.tp [.i .i64, .i .i64]) := pureC Tryz.func211 Tryz.call211 [] [c211l0 n] [] (ints_Pow10 n) (by kernel_rfl)

def c250 (n : Nat) : PF Tryz.prog 250 [.i .i64] (.i .u64) := pureC Tryz.func250 Tryz.call250 [] [] [] (ints_size n) (by kernel_rfl)

def c249 (n : Nat) : PF Tryz.prog 249 [.i .u64, .i .u64] (.tp [.i .u64, .i .u64]) := pureC Tryz.func249 Tryz.call249 [] [] [] (math_bits_Mul64 n) (by kernel_rfl)

def c251 (n : Nat) : PF Tryz.prog 251 [.i .u64, .b] (.tp [.i .i64, .i .i64]) := pureC Tryz.func251 Tryz.call251 [] [] [] (ints_signed n) (by kernel_rfl)

def c212 (n : Nat) : PF Tryz.prog 212 [.i .i64, .i .i64] (.tp [.i .i64, .i .i64]) := pureC Tryz.func212 Tryz.call212 [(c250 n).e, (c249 n).e, (c251 n).e] [] [] (ints_Mul n) (by kernel_rfl)

def c171 (n : Nat) : PF Tryz.prog 171 [.ag [.b, .b, .s, .i .i64, .i .i64]] (.tp [.i .i64, .i .i64]) := pureC Tryz.func171 Tryz.call171 [(c210 n), (c211 n).e, (c212 n).e] [] [] (yearforms_magnitude n) (by kernel_rfl)

def c167 (n : Nat) : PF Tryz.prog 167 [.ag [.b, .b, .s, .i .i64, .i .i64]] (.b) := pureC Tryz.func167 Tryz.call167 [(c165 n).e, (c171 n).e] [] [] (yearforms_checkLong n) (by kernel_rfl)

def c114 (n : Nat) : PF Tryz.prog 114 [.ag [.b, .b, .s, .i .i64, .i .i64]] (.i .i64) := pureC Tryz.func114 Tryz.call114 [(c165 n).e, (c166 n).e, (c122 n).e, (c167 n).e] [] [] (yearforms_Check n) (by kernel_rfl)
theorem pure_yearforms_Check (n : Nat) : ∀ a r, yearforms_Check n a.1 a.2.1 a.2.2.1 a.2.2.2.1 a.2.2.2.2 = some r → PureOK Tryz.prog 114 (argP [.ag [.b, .b, .s, .i .i64, .i .i64]] a) (encP (.i .i64) r) := fun a r h => (c114 n).ok a r h

def c123 (n : Nat) : PF Tryz.prog 123 [.ag [.b, .b, .s, .i .i64, .i .i64]] (.tp [.i .i64, .i .i64]) := pureC Tryz.func123 Tryz.call123 [(c114 n).e, (c122 n).e, (c171 n).e] [] [] (yearforms_Value n) (by kernel_rfl)

noncomputable def un_lib_172 (l : List V) : Option (Int) := match l with
  | [.i .i64 a0] => some (a0)
  | _ => none
noncomputable def e_lib_172 (n : Nat) : Ent := pureE 172 un_lib_172 (fun a => seasons_Months n a) (fun r => .tp [.i .i64 r.1, .i .i64 r.2.1, .i .i64 r.2.2])
theorem ok_lib_172 (n : Nat) : EntOK Tryz.prog (e_lib_172 n) := pureE_ok (arg := fun a => [.i .i64 a]) Tryz.call172 (fun l a h => by
  unfold un_lib_172 at h
  split at h
  · cases h; rfl
  · cases h) (fun a => rfl) (fun a r h => hand_seasons_Months n (fun x r h => pure_seasons_Check n x r h) a r h)
def c172 (n : Nat) : FE Tryz.prog := libF (ok_lib_172 n)

def c219 (n : Nat) : PF Tryz.prog 219 [.i .i64] (.i .i64) := pureC Tryz.func219 Tryz.call219 [] [] [] (years_Check n) (by kernel_rfl)

def c213 (n : Nat) : PF Tryz.prog 213 [.i .i64, .i .i64] (.i .i64) := pureC Tryz.func213 Tryz.call213 [(c219 n).e] [] [] (months_Check n) (by kernel_rfl)

def c255 (n : Nat) : PF Tryz.prog 255 [.i .i64, .i .i64] (.tp [.i .i64, .i .i64]) := pureC Tryz.func255 Tryz.call255 [] [] [] (ints_Sub n) (by kernel_rfl)

def c217 (n : Nat) : PF Tryz.prog 217 [.i .i64, .i .i64] (.tp [.i .i64, .i .i64]) := pureC Tryz.func217 Tryz.call217 [(c255 n).e] [] [] (ints_Div n) (by kernel_rfl)
theorem pure_ints_Div (n : Nat) : ∀ a r, ints_Div n a.1 a.2 = some r → PureOK Tryz.prog 217 (argP [.i .i64, .i .i64] a) (encP (.tp [.i .i64, .i .i64]) r) := fun a r h => (c217 n).ok a r h

noncomputable def un_lib_274 (l : List V) : Option (Int) := match l with
  | [.i .i64 a0] => some (a0)
  | _ => none
noncomputable def e_lib_274 (n : Nat) : Ent := pureE 274 un_lib_274 (fun a => years_before n a) (fun r => .i .i64 r)
theorem ok_lib_274 (n : Nat) : EntOK Tryz.prog (e_lib_274 n) := pureE_ok (arg := fun a => [.i .i64 a]) Tryz.call274 (fun l a h => by
  unfold un_lib_274 at h
  split at h
  · cases h; rfl
  · cases h) (fun a => rfl) (fun a r h => hand_years_before n (fun x y r h => pure_ints_Div n (x, y) r h) a r h)
def c274 (n : Nat) : FE Tryz.prog := libF (ok_lib_274 n)

def c252 (n : Nat) : PF Tryz.prog 252 [.i .i64] (.i .i64) := pureC Tryz.func252 Tryz.call252 [(c274 n)] [] [] (years_start n) (by kernel_rfl)

def c214 (n : Nat) : PF Tryz.prog 214 [.i .i64] (.tp [.i .i64, .i .i64]) := pureC Tryz.func214 Tryz.call214 [(c219 n).e, (c252 n).e] [] [] (years_Start n) (by kernel_rfl)

def c253 (n : Nat) : PF Tryz.prog 253 [.i .i64] (.tp [.b, .i .i64]) := pureC Tryz.func253 Tryz.call253 [(c219 n).e, (c274 n)] [] [] (years_Leap n) (by kernel_rfl)
theorem pure_years_Leap (n : Nat) : ∀ a r, years_Leap n a = some r → PureOK Tryz.prog 253 (argP [.i .i64] a) (encP (.tp [.b, .i .i64]) r) := fun a r h => (c253 n).ok a r h

noncomputable def un_lib_215 (l : List V) : Option (Int × Int) := match l with
  | [.i .i64 a0, .i .i64 a1] => some (a0, a1)
  | _ => none
noncomputable def e_lib_215 (n : Nat) : Ent := pureE 215 un_lib_215 (fun a => months_length n a.1 a.2) (fun r => .i .i64 r)
theorem ok_lib_215 (n : Nat) : EntOK Tryz.prog (e_lib_215 n) := pureE_ok (arg := fun a => [.i .i64 a.1, .i .i64 a.2]) Tryz.call215 (fun l a h => by
  unfold un_lib_215 at h
  split at h
  · cases h; rfl
  · cases h) (fun a => rfl) (fun a r h => hand_months_length n (fun x r h => pure_years_Leap n x r h) a.1 a.2 r h)
def c215 (n : Nat) : FE Tryz.prog := libF (ok_lib_215 n)

def c173E (n : Nat) : List (FE Tryz.prog) := [(c213 n).e, (c214 n).e, (c215 n)]
def c173l0 (n : Nat) : LP Tryz.prog Tryz.f173.ntmps := loopC (c173E n) [] 0 (sb (acU [] Tryz.f173) 0) ⟨[(0, .i .i64), (7, .i .i64), (22, .i .i64), (23, .i .i64)], [], 0, 0, 0, 0⟩ [] [⟨.exit 0, ⟨[(7, .i .i64)], [], 0, 0, 0, 0⟩⟩] (months_Start_l0 n) n (by kernel_rfl)
def c173 (n : Nat) : PF Tryz.prog 173 [.i .i64, .i .i64] (.tp [.i .i64, .i .i64]) := pureC Tryz.func173 Tryz.call173 (c173E n) [c173l0 n] [] (months_Start n) (by kernel_rfl)

noncomputable def un_lib_216 (l : List V) : Option (Int × Int) := match l with
  | [.i .i64 a0, .i .i64 a1] => some (a0, a1)
  | _ => none
noncomputable def e_lib_216 (n : Nat) : Ent := pureE 216 un_lib_216 (fun a => ints_Add n a.1 a.2) (fun r => .tp [.i .i64 r.1, .i .i64 r.2])
theorem ok_lib_216 (n : Nat) : EntOK Tryz.prog (e_lib_216 n) := pureE_ok (arg := fun a => [.i .i64 a.1, .i .i64 a.2]) Tryz.call216 (fun l a h => by
  unfold un_lib_216 at h
  split at h
  · cases h; rfl
  · cases h) (fun a => rfl) (fun a r h => hand_ints_Add n a.1 a.2 r h)
def c216 (n : Nat) : FE Tryz.prog := libF (ok_lib_216 n)

def c218 (n : Nat) : PF Tryz.prog 218 [.i .i64, .i .i64] (.tp [.i .i64, .i .i64]) := pureC Tryz.func218 Tryz.call218 [] [] [] (ints_Mod n) (by kernel_rfl)

def c174 (n : Nat) : PF Tryz.prog 174 [.i .i64, .i .i64, .i .i64] (.tp [.i .i64, .i .i64, .i .i64]) := pureC Tryz.func174 Tryz.call174 [(c213 n).e, (c216 n), (c217 n).e, (c218 n).e, (c219 n).e] [] [] (months_Add n) (by kernel_rfl)

def c175 (n : Nat) : PF Tryz.prog 175 [.i .i64, .i .i64] (.tp [.i .i64, .i .i64]) := pureC Tryz.func175 Tryz.call175 [(c173 n).e, (c215 n)] [] [] (months_End n) (by kernel_rfl)

def c124 (n : Nat) : PF Tryz.prog 124 [.i .i64, .i .i64] (.tp [.ag [.i .i8, .i .i64, .i .i8, .i .i64], .i .i64]) := pureC Tryz.func124 Tryz.call124 [(c172 n), (c173 n).e, (c174 n).e, (c175 n).e] [] [] (seasons_Run n) (by kernel_rfl)

def c56 (n : Nat) : PF Tryz.prog 56 [.ag [.b, .b, .s, .i .i64, .i .i64, .s, .s, .i .u8, .i .u8, .i .u8]] (.b) := pureC Tryz.func56 Tryz.call56 [(c114 n).e, (c19 n).e, (c122 n).e, (c123 n).e, (c124 n).e] [] [] (dateforms_checkYear n) (by kernel_rfl)

def c57l0 (n : Nat) : LP Tryz.prog Tryz.f57.ntmps := loopC [] [] 0 (sb (acU [] Tryz.f57) 0) ⟨[(0, .s), (1, .i .i64), (5, .i .i64)], [], 0, 0, 0, 0⟩ [] [⟨.ret, ⟨[(4, .b)], [], 0, 0, 0, 0⟩⟩, ⟨.exit 0, ⟨[], [], 0, 0, 0, 0⟩⟩] (dateforms_agrees_l0 n) n (by kernel_rfl)
def c57 (n : Nat) : PF Tryz.prog 57 [.s, .i .i64] (.b) := pureC Tryz.func57 Tryz.call57 [] [c57l0 n] [] (dateforms_agrees n) (by kernel_rfl)

def c21l0 (n : Nat) : LP Tryz.prog Tryz.f21.ntmps := loopC [] [] 0 (sb (acU [] Tryz.f21) 0) ⟨[(3, .i .i64), (10, .ag [.s, .s]), (11, .i .i64)], [], 1, 0, 0, 0⟩ [] [⟨.exit 0, ⟨[(3, .i .i64)], [], 1, 0, 0, 0⟩⟩] (dateforms_Components_l0 n) n (by kernel_rfl)
def c21 (n : Nat) : PF Tryz.prog 21 [.ag [.b, .b, .s, .i .i64, .i .i64, .s, .s, .i .u8, .i .u8, .i .u8]] (.i .i64) := pureC Tryz.func21 Tryz.call21 [] [c21l0 n] [] (dateforms_Components n) (by kernel_rfl)

def c16 (n : Nat) : PF Tryz.prog 16 [.ag [.b, .b, .s, .i .i64, .i .i64, .s, .s, .i .u8, .i .u8, .i .u8]] (.i .i64) := pureC Tryz.func16 Tryz.call16 [(c19 n).e, (c56 n).e, (c57 n).e, (c21 n).e, (c58 n).e] [] [] (dateforms_Check n) (by kernel_rfl)

def c13 (n : Nat) : PF Tryz.prog 13 [.s] (.tp [.ag [.b, .b, .s, .i .i64, .i .i64, .s, .s, .i .u8, .i .u8, .i .u8], .i .i64, .i .i64]) := pureC Tryz.func13 Tryz.call13 [(c25 n).e, (c16 n).e] [] [] (dateforms_Parse n) (by kernel_rfl)

def c112l0 (n : Nat) : LP Tryz.prog Tryz.f112.ntmps := loopC [] [] 0 (sb (acU [] Tryz.f112) 0) ⟨[(0, .sl 0 0 .q (some .q)), (3, .i .u8), (4, .i .i64)], [(0, .ints .u8 3)], 1, 1, 1, 1⟩ [] [⟨.exit 0, ⟨[(3, .i .u8)], [], 1, 1, 1, 1⟩⟩] (slices_Min_uint8_uint8_l0 n) n (by kernel_rfl)
def c112 (n : Nat) : FF Tryz.prog 112 [.sl 0 0 .q (some .q)] [.ints .u8 3] 1 1 [⟨.it 9 (.s), [], [], true⟩, ⟨.i .u8, [], [], false⟩] := funC Tryz.func112 Tryz.call112 [] [c112l0 n] [] [0] (slices_Min_uint8_uint8 n) (by kernel_rfl)

def c113l0 (n : Nat) : LP Tryz.prog Tryz.f113.ntmps := loopC [] [] 0 (sb (acU [] Tryz.f113) 0) ⟨[(0, .sl 0 0 .q (some .q)), (3, .i .u8), (4, .i .i64)], [(0, .ints .u8 3)], 1, 1, 1, 1⟩ [] [⟨.exit 0, ⟨[(3, .i .u8)], [], 1, 1, 1, 1⟩⟩] (slices_Max_uint8_uint8_l0 n) n (by kernel_rfl)
def c113 (n : Nat) : FF Tryz.prog 113 [.sl 0 0 .q (some .q)] [.ints .u8 3] 1 1 [⟨.it 9 (.s), [], [], true⟩, ⟨.i .u8, [], [], false⟩] := funC Tryz.func113 Tryz.call113 [] [c113l0 n] [] [0] (slices_Max_uint8_uint8 n) (by kernel_rfl)

def c52 (n : Nat) : PF Tryz.prog 52 [.ai .u8 3, .i .i64] (.tp [.ai .u8 3, .ai .u8 3, .i .i64]) := pureC Tryz.func52 Tryz.call52 [(c58 n).e, (c112 n).e, (c113 n).e] [] [] (marks_Plain n) (by kernel_rfl)

end
end Go.Sh
