/- Each function of the program computes its plain function: the certificates.
   Conditions: none. Printed by the bench tool gen.py. -/
import Derived.Test.YtbeeikpnlojpgaaGreatDoorShD
import Derived.Test.YtbeeikpnlojpgaaGreatDoorProg
import Derived.Test.YtbeeikpnlojpgaaGreatDoorAbsX
import Derived.Test.YtbeeikpnlojpgaaGreatDoorAbsU
import Derived.Test.YtbeeikpnlojpgaaGreatDoorAbsW
import Derived.KernelRfl
import Derived.Test.YtbeeikpnlojpgaaGreatDoorAbsPat
import Derived.Test.YtbeeikpnlojpgaaGreatDoorShelf
import Derived.Test.YtbeeikpnlojpgaaGreatDoorHGa
import Derived.Test.YtbeeikpnlojpgaaGreatDoorHGb
import Derived.Test.YtbeeikpnlojpgaaGreatDoorHGe
import Derived.Test.YtbeeikpnlojpgaaGreatDoorHGm
import Derived.Test.YtbeeikpnlojpgaaGreatDoorHGs
set_option linter.unusedVariables false
set_option linter.unusedSimpArgs false
set_option maxRecDepth 100000
set_option maxHeartbeats 4000000
namespace Go.Sh
open Go.Abs Go.Proofs
noncomputable section

def c91 (n : Nat) : FF Tryz.prog 91 [.p 0 0] [.cells [.s, .i .i64]] 1 1 [⟨.s, [], [], false⟩] := funC Tryz.func91 Tryz.call91 [] [] [] [] [0] (cursors_Cursor_Rest n) (by kernel_rfl) (by kernel_rfl)

def c55 (n : Nat) : FF Tryz.prog 55 [.p 0 0] [.cells [.s, .i .i64]] 1 1 [⟨.tp [.i .u8, .b], [], [], false⟩] := funC Tryz.func55 Tryz.call55 [(c91 n).e] [] [] [] [0] (cursors_Cursor_Peek n) (by kernel_rfl) (by kernel_rfl)

def c73 (n : Nat) : PF Tryz.prog 73 [] (.ag [.s, .s, .s, .s]) := pureC Tryz.func73 Tryz.call73 [] [] [] [] (marks_texts n) (by kernel_rfl) (by kernel_rfl)

def c92l0 (n : Nat) : LP Tryz.prog Tryz.f92.ntmps := loopC [] [] 0 (sb (acM [] [] Tryz.f92) 0) ⟨[(0, .sl 0 0 4 (some (.k 4))), (1, .s), (7, .i .i64), (8, .i .i64)], [(0, .cells [.s, .s, .s, .s])], 1, 1, 1, 1⟩ [] [⟨.ret, ⟨[(4, .i .i64)], [], 1, 1, 1, 1⟩⟩, ⟨.exit 0, ⟨[], [], 1, 1, 1, 1⟩⟩] (slices_Index_string_string_l0 n) n (by kernel_rfl) (by kernel_rfl)
def c92 (n : Nat) : FF Tryz.prog 92 [.sl 0 0 4 (some (.k 4)), .s] [.cells [.s, .s, .s, .s]] 1 1 [⟨.i .i64, [], [], false⟩] := funC Tryz.func92 Tryz.call92 [] [c92l0 n] [] [] [0] (slices_Index_string_string n) (by kernel_rfl) (by kernel_rfl)

def c56 (n : Nat) : PF Tryz.prog 56 [.i .u8] (.tp [.i .u8, .b]) := pureC Tryz.func56 Tryz.call56 [(c73 n).e, (c92 n).e] [] [] [] (marks_Of n) (by kernel_rfl) (by kernel_rfl)

def c44 (n : Nat) : FF Tryz.prog 44 [.p 0 0] [.cells [.s, .i .i64]] 1 1 [⟨.i .i64, [], [], false⟩] := funC Tryz.func44 Tryz.call44 [] [] [] [] [0] (cursors_Cursor_At n) (by kernel_rfl) (by kernel_rfl)

def c94 (n : Nat) : FF Tryz.prog 94 [.p 0 0, .i .i64, .i .i64] [.cells [.s, .i .i64]] 1 1 [⟨.it 93 (.ag [.i .i64, .i .i64]), [], [], true⟩] := funC Tryz.func94 Tryz.call94 [] [] [] [] [0] (cursors_Cursor_Fail n) (by kernel_rfl) (by kernel_rfl)

def c147 (_n : Nat) : FE Tryz.prog := libF (indexE_ok Tryz.func147 (by kernel_rfl) (by kernel_rfl) (by kernel_rfl) (by kernel_rfl))

def c116 (n : Nat) : PF Tryz.prog 116 [.s, .i .u8] (.i .i64) := pureC Tryz.func116 Tryz.call116 [(c147 n)] [] [] [] (int_stringslite_IndexByte n) (by kernel_rfl) (by kernel_rfl)

def c93 (n : Nat) : PF Tryz.prog 93 [.s, .i .u8] (.i .i64) := pureC Tryz.func93 Tryz.call93 [(c116 n).e] [] [] [] (strings_IndexByte n) (by kernel_rfl) (by kernel_rfl)

def c57 (n : Nat) : FF Tryz.prog 57 [.p 0 0, .s] [.cells [.s, .i .i64]] 0 1 [⟨.it 93 (.ag [.i .i64, .i .i64]), [(0, .cells [.s, .i .i64])], [], true⟩, ⟨.i .u8, [(0, .cells [.s, .i .i64])], [], false⟩] := funC Tryz.func57 Tryz.call57 [(c55 n).e, (c44 n).e, (c94 n).e, (c93 n).e] [] [] [] [0] (cursors_Cursor_One n) (by kernel_rfl) (by kernel_rfl)

def c54 (n : Nat) : FF Tryz.prog 54 [.p 0 0] [.cells [.p 1 0], .cells [.s, .i .i64]] 1 2 [⟨.it 93 (.ag [.i .i64, .i .i64]), [(1, .cells [.s, .i .i64])], [], true⟩, ⟨.i .u8, [(1, .cells [.s, .i .i64])], [], false⟩] := funC Tryz.func54 Tryz.call54 [(c55 n).e, (c56 n).e, (c57 n).e] [] [] [] [0, 1] (dateforms_Read_1 n) (by kernel_rfl) (by kernel_rfl)

def c143 (n : Nat) : PF Tryz.prog 143 [.s, .s] (.b) := pureC Tryz.func143 Tryz.call143 [] [] [] [] (int_stringslite_HasPrefix n) (by kernel_rfl) (by kernel_rfl)

def c114 (n : Nat) : PF Tryz.prog 114 [.s, .s] (.b) := pureC Tryz.func114 Tryz.call114 [(c143 n).e] [] [] [] (strings_HasPrefix n) (by kernel_rfl) (by kernel_rfl)

def c83 (n : Nat) : FF Tryz.prog 83 [.p 0 0, .s] [.cells [.s, .i .i64]] 1 1 [⟨.b, [], [], false⟩] := funC Tryz.func83 Tryz.call83 [(c91 n).e, (c114 n).e] [] [] [] [0] (cursors_Cursor_Is n) (by kernel_rfl) (by kernel_rfl)

def c45 (n : Nat) : FF Tryz.prog 45 [.p 0 0, .s] [.cells [.s, .i .i64]] 0 1 [⟨.b, [(0, .cells [.s, .i .i64])], [], false⟩] := funC Tryz.func45 Tryz.call45 [(c83 n).e] [] [] [] [0] (cursors_Cursor_Take n) (by kernel_rfl) (by kernel_rfl)

def c58E (n : Nat) : List (FE Tryz.prog) := [(c44 n).e, (c55 n).e, (c93 n).e, (c94 n).e]
def c58l0 (n : Nat) : LP Tryz.prog Tryz.f58.ntmps := loopC (c58E n) [] 0 (sb (acM [] [] Tryz.f58) 0) ⟨[(0, .p 0 0), (1, .s), (2, .i .i64), (3, .i .i64), (9, .i .i64), (10, .i .u8), (11, .b)], [(0, .cells [.s, .i .i64])], 1, 1, 0, 1⟩ [] [⟨.exit 0, ⟨[(0, .p 0 0), (2, .i .i64), (9, .i .i64)], [(0, .cells [.s, .i .i64])], 1, 1, 0, 1⟩⟩] (cursors_Cursor_Some_l0 n) n (by kernel_rfl) (by kernel_rfl)
def c58 (n : Nat) : FF Tryz.prog 58 [.p 0 0, .s, .i .i64, .i .i64] [.cells [.s, .i .i64]] 0 1 [⟨.it 93 (.ag [.i .i64, .i .i64]), [(0, .cells [.s, .i .i64])], [], true⟩, ⟨.s, [(0, .cells [.s, .i .i64])], [], false⟩] := funC Tryz.func58 Tryz.call58 (c58E n) [c58l0 n] [] [] [0] (cursors_Cursor_Some n) (by kernel_rfl) (by kernel_rfl)

noncomputable def e_lib_40 (_n : Nat) : Ent := atoiF 40 164
theorem ok_lib_40 (n : Nat) : EntOK Tryz.prog (e_lib_40 n) := atoiF_ok Tryz.call40 (fun s n hl h w => (Tryz.strconv_Atoi s n hl h w).mono fun e w' ⟨h1, t, h2⟩ => ⟨h1, h2 ▸ bytesWorld_below _ _ _⟩) (fun s hl h w hg => atoi_err s hl h w hg)
def c40 (n : Nat) : FE Tryz.prog := libF (ok_lib_40 n)

def c95 (n : Nat) : FF Tryz.prog 95 [.s, .p 0 0] [.cells [.p 1 0], .cells [.s, .i .i64]] 1 2 [⟨.i .i64, [(1, .cells [.s, .i .i64])], [], false⟩, ⟨.it 93 (.ag [.i .i64, .i .i64]), [(1, .cells [.s, .i .i64])], [], true⟩] := funC Tryz.func95 Tryz.call95 [(c45 n).e, (c57 n).e, (c58 n).e, (c40 n)] [] [] [] [0, 1] (yearforms_Read_1 n) (by kernel_rfl) (by kernel_rfl)

def c61 (n : Nat) : FF Tryz.prog 61 [.p 0 0] [.cells [.s, .i .i64]] 0 1 [⟨.it 93 (.ag [.i .i64, .i .i64]), [(0, .cells [.s, .i .i64])], [], true⟩, ⟨.ag [.b, .b, .s, .i .i64, .i .i64], [(0, .cells [.s, .i .i64])], [], false⟩] := funC Tryz.func61 Tryz.call61 [(c45 n).e, (c57 n).e, (c58 n).e, (c95 n).e] [] [] [] [0] (yearforms_Read n) (by kernel_rfl) (by kernel_rfl)

def c60 (n : Nat) : FF Tryz.prog 60 [.p 0 0, .p 1 0] [.cells [.p 2 0], .cells [.b, .b, .s, .i .i64, .i .i64, .s, .s, .i .u8, .i .u8, .i .u8], .cells [.s, .i .i64]] 1 3 [⟨.it 93 (.ag [.i .i64, .i .i64]), [(1, .cells [.b, .b, .s, .i .i64, .i .i64, .s, .s, .i .u8, .i .u8, .i .u8]), (2, .cells [.s, .i .i64])], [], true⟩, ⟨.tp [], [(1, .cells [.b, .b, .s, .i .i64, .i .i64, .s, .s, .i .u8, .i .u8, .i .u8]), (2, .cells [.s, .i .i64])], [], false⟩] := funC Tryz.func60 Tryz.call60 [(c61 n).e] [] [] [] [0, 1, 2] (dateforms_Read_3 n) (by kernel_rfl) (by kernel_rfl)

def c72 (n : Nat) : PF Tryz.prog 72 [.i .u8] (.i .i64) := pureC Tryz.func72 Tryz.call72 [] [] [] [] (marks_Check n) (by kernel_rfl) (by kernel_rfl)

def c33E (n : Nat) : List (FE Tryz.prog) := [(c72 n).e]
def c33l0 (n : Nat) : LP Tryz.prog Tryz.f33.ntmps := loopC (c33E n) [] 0 (sb (acM [] [] Tryz.f33) 0) ⟨[(1, .i .i64), (13, .ai .u8 3), (14, .i .i64)], [], 1, 0, 0, 0⟩ [] [⟨.ret, ⟨[(4, .i .i64)], [], 1, 0, 0, 0⟩⟩, ⟨.exit 0, ⟨[], [], 1, 0, 0, 0⟩⟩] (marks_All_l0 n) n (by kernel_rfl) (by kernel_rfl)
def c33 (n : Nat) : PF Tryz.prog 33 [.ai .u8 3, .i .i64] (.i .i64) := pureC Tryz.func33 Tryz.call33 (c33E n) [c33l0 n] [] [] (marks_All n) (by kernel_rfl) (by kernel_rfl)

def c96 (n : Nat) : FF Tryz.prog 96 [.i .i64, .p 2 0, .p 0 0, .p 1 0] [.ints .u8 3, .ints .u8 3, .cells [.i .u8]] 2 3 [⟨.i .u8, [(2, .cells [.i .u8])], [], false⟩] := funC Tryz.func96 Tryz.call96 [] [] [] [] [2, 0, 1] (marks_Spread_1 n) (by kernel_rfl) (by kernel_rfl)

def c64E (n : Nat) : List (FE Tryz.prog) := [(c33 n).e, (c96 n).e]
def c64l1 (n : Nat) : LP Tryz.prog Tryz.f64.ntmps := loopC (c64E n) [] 1 (sb (acM [0] [] Tryz.f64) 1) ⟨[(6, .p 2 0), (12, .fn 96 [.p 5 0, .p 1 0, .p 0 0]), (13, .p 6 0), (14, .i .i64)], [(0, .ints .u8 3), (1, .ints .u8 3), (2, .ints .u8 3), (5, .cells [.i .u8]), (6, .ints .u8 3)], 7, 0, 0, 0⟩ [] [⟨.exit 2, ⟨[(6, .p 2 0), (13, .p 6 0)], [(2, .ints .u8 3), (6, .ints .u8 3)], 7, 0, 0, 0⟩⟩] (marks_Spread_l1 n) n (by kernel_rfl) (by kernel_rfl)
def c64 (n : Nat) : PF Tryz.prog 64 [.ai .u8 3, .ai .u8 3, .i .i64] (.tp [.ai .u8 3, .i .i64]) := pureC Tryz.func64 Tryz.call64 (c64E n) [c64l1 n] [0] [] (marks_Spread n) (by kernel_rfl) (by kernel_rfl)

def c59 (n : Nat) : FF Tryz.prog 59 [.p 0 0] [.cells [.fn 1000058 [.p 1 0]], .cells [.s, .i .i64]] 1 2 [⟨.it 93 (.ag [.i .i64, .i .i64]), [(1, .cells [.s, .i .i64])], [], true⟩, ⟨.s, [(1, .cells [.s, .i .i64])], [], false⟩] := funC Tryz.func59 Tryz.call59 [(c58 n).e] [] [] [] [0, 1] (dateforms_Read_2 n) (by kernel_rfl) (by kernel_rfl)

def c62 (n : Nat) : FF Tryz.prog 62 [.p 0 0, .p 2 0] [.cells [.fn 59 [.p 1 0]], .cells [.fn 1000058 [.p 3 0]], .cells [.b, .b, .s, .i .i64, .i .i64, .s, .s, .i .u8, .i .u8, .i .u8], .cells [.s, .i .i64]] 2 4 [⟨.it 93 (.ag [.i .i64, .i .i64]), [(2, .cells [.b, .b, .s, .i .i64, .i .i64, .s, .s, .i .u8, .i .u8, .i .u8]), (3, .cells [.s, .i .i64])], [], true⟩, ⟨.tp [], [(2, .cells [.b, .b, .s, .i .i64, .i .i64, .s, .s, .i .u8, .i .u8, .i .u8]), (3, .cells [.s, .i .i64])], [], false⟩] := funC Tryz.func62 Tryz.call62 [(c59 n).e] [] [] [] [0, 2, 1, 3] (dateforms_Read_4 n) (by kernel_rfl) (by kernel_rfl)

def c63 (n : Nat) : FF Tryz.prog 63 [.p 0 0, .p 2 0] [.cells [.fn 59 [.p 1 0]], .cells [.fn 1000058 [.p 3 0]], .cells [.b, .b, .s, .i .i64, .i .i64, .s, .s, .i .u8, .i .u8, .i .u8], .cells [.s, .i .i64]] 2 4 [⟨.it 93 (.ag [.i .i64, .i .i64]), [(2, .cells [.b, .b, .s, .i .i64, .i .i64, .s, .s, .i .u8, .i .u8, .i .u8]), (3, .cells [.s, .i .i64])], [], true⟩, ⟨.tp [], [(2, .cells [.b, .b, .s, .i .i64, .i .i64, .s, .s, .i .u8, .i .u8, .i .u8]), (3, .cells [.s, .i .i64])], [], false⟩] := funC Tryz.func63 Tryz.call63 [(c59 n).e] [] [] [] [0, 2, 1, 3] (dateforms_Read_5 n) (by kernel_rfl) (by kernel_rfl)

def c26 (n : Nat) : FF Tryz.prog 26 [.p 0 0] [.cells [.s, .i .i64]] 0 1 [⟨.it 93 (.ag [.i .i64, .i .i64]), [(0, .cells [.s, .i .i64])], [], true⟩, ⟨.tp [.ag [.b, .b, .s, .i .i64, .i .i64, .s, .s, .i .u8, .i .u8, .i .u8], .ai .i64 3], [(0, .cells [.s, .i .i64])], [], false⟩] := funC Tryz.func26 Tryz.call26 [(c54 n).e, (c44 n).e, (c60 n).e, (c64 n).e, (c45 n).e, (c62 n).e, (c63 n).e] [] [0] [] [0] (dateforms_Read n) (by kernel_rfl) (by kernel_rfl)

def c25 (n : Nat) : FF Tryz.prog 25 [.p 0 0, .p 1 0, .p 2 0] [.cells [.s, .i .i64], .cells [.b, .b, .s, .i .i64, .i .i64, .s, .s, .i .u8, .i .u8, .i .u8], .ints .i64 3] 0 3 [⟨.it 93 (.ag [.i .i64, .i .i64]), [(0, .cells [.s, .i .i64]), (1, .cells [.b, .b, .s, .i .i64, .i .i64, .s, .s, .i .u8, .i .u8, .i .u8]), (2, .ints .i64 3)], [], true⟩, ⟨.tp [], [(0, .cells [.s, .i .i64]), (1, .cells [.b, .b, .s, .i .i64, .i .i64, .s, .s, .i .u8, .i .u8, .i .u8]), (2, .ints .i64 3)], [], false⟩] := funC Tryz.func25 Tryz.call25 [(c26 n).e] [] [] [] [0, 1, 2] (dateforms_Parse_1 n) (by kernel_rfl) (by kernel_rfl)

def c20 (n : Nat) : FF Tryz.prog 20 [.s, .fn 25 [.p 0 0, .p 1 0]] [.cells [.b, .b, .s, .i .i64, .i .i64, .s, .s, .i .u8, .i .u8, .i .u8], .ints .i64 3] 0 2 [⟨.tp [.i .i64, .i .i64], [(0, .cells [.b, .b, .s, .i .i64, .i .i64, .s, .s, .i .u8, .i .u8, .i .u8]), (1, .ints .i64 3)], [], false⟩] := funD ⟨(acM [] [] Tryz.f20), 2, 3, 0, 9, 43, 5⟩ Tryz.func20 Tryz.call20 Tryz.func43 Tryz.call43 [(c25 n).e] [] [] [] [0, 1] (cursors_Run_dateforms_Parse_1 n) (by kernel_rfl) (by kernel_rfl) (by kernel_rfl) (by kernel_rfl)

def c41 (n : Nat) : PF Tryz.prog 41 [.i .i64] (.i .i64) := pureC Tryz.func41 Tryz.call41 [] [] [] [] (seasons_Check n) (by kernel_rfl) (by kernel_rfl)
theorem pure_seasons_Check (n : Nat) : ∀ a r, seasons_Check n a = some r → PureOK Tryz.prog 41 (argP [.i .i64] a) (encP (.i .i64) r) := fun a r h => (c41 n).ok a r h

def c14 (n : Nat) : PF Tryz.prog 14 [.ag [.b, .b, .s, .i .i64, .i .i64, .s, .s, .i .u8, .i .u8, .i .u8]] (.tp [.i .i64, .b]) := pureC Tryz.func14 Tryz.call14 [(c40 n), (c41 n).e] [] [] [] (dateforms_Season n) (by kernel_rfl) (by kernel_rfl)

def c167 (n : Nat) : PF Tryz.prog 167 [.i .i32] (.b) := pureC Tryz.func167 Tryz.call167 [] [] [] [] (unicode_utf8_ValidRune n) (by kernel_rfl) (by kernel_rfl)

def c149E (n : Nat) : List (FE Tryz.prog) := [(c93 n).e, (c167 n).e]
def c149l0 (n : Nat) : LP Tryz.prog Tryz.f149.ntmps := loopC (c149E n) [] 0 (sb (acM [] [] Tryz.f149) 0) ⟨[(175, .p 0 0)], [(0, .iter)], 1, 0, 0, 0⟩ [] [⟨.ret, ⟨[(4, .i .i64)], [], 1, 0, 0, 0⟩⟩, ⟨.exit 9, ⟨[], [], 1, 0, 0, 0⟩⟩] (strings_IndexRune_l0 n) n (by kernel_rfl) (by kernel_rfl)
def c149l2 (n : Nat) : LP Tryz.prog Tryz.f149.ntmps := loopC (c149E n) [] 2 (sb (sb (acM [] [] Tryz.f149) 1).body 2) ⟨[(0, .s), (7, .s), (8, .i .i64), (9, .i .i64), (12, .i .i64)], [], 128, 0, 0, 0⟩ [] [⟨.exit 3, ⟨[(8, .i .i64), (9, .i .i64)], [], 128, 0, 0, 0⟩⟩] (strings_IndexRune_l2 n) n (by kernel_rfl) (by kernel_rfl)
def c149l2a (n : Nat) : LP Tryz.prog Tryz.f149.ntmps := loopC (c149E n) [] 2 (sb (sb (acM [] [] Tryz.f149) 1).body 2) ⟨[(0, .s), (7, .s), (8, .i .i64), (9, .i .i64), (12, .i .i64)], [], 56, 0, 0, 0⟩ [] [⟨.exit 3, ⟨[(8, .i .i64), (9, .i .i64)], [], 56, 0, 0, 0⟩⟩] (strings_IndexRune_l2a n) n (by kernel_rfl) (by kernel_rfl)
def c149l1 (n : Nat) : LP Tryz.prog Tryz.f149.ntmps := loopC (c149E n) [altL (c149l2 n) (c149l2a n) rfl] 1 (sb (acM [] [] Tryz.f149) 1) ⟨[(0, .s), (7, .s), (8, .i .i64), (9, .i .i64)], [], 0, 0, 0, 0⟩ [] [⟨.ret, ⟨[(4, .i .i64)], [], 0, 0, 0, 0⟩⟩, ⟨.exit 1, ⟨[], [], 0, 0, 0, 0⟩⟩] (strings_IndexRune_l1 n) n (by kernel_rfl) (by kernel_rfl)
def c149 (n : Nat) : PF Tryz.prog 149 [.s, .i .i32] (.i .i64) := pureC Tryz.func149 Tryz.call149 (c149E n) [c149l0 n, c149l1 n, noL 3 (sb (acM [] [] Tryz.f149) 3)] [] [] (strings_IndexRune n) (by kernel_rfl) (by kernel_rfl)

def c119 (n : Nat) : PF Tryz.prog 119 [.s, .i .i32] (.b) := pureC Tryz.func119 Tryz.call119 [(c149 n).e] [] [] [] (strings_ContainsRune n) (by kernel_rfl) (by kernel_rfl)

def c118 (n : Nat) : FF Tryz.prog 118 [.i .i32, .p 0 0] [.cells [.s]] 1 1 [⟨.b, [], [], false⟩] := funC Tryz.func118 Tryz.call118 [(c119 n).e] [] [] [] [0] (yearforms_only_1 n) (by kernel_rfl) (by kernel_rfl)

def c148E (n : Nat) : List (FE Tryz.prog) := [(c118 n).e]
def c148l0 (n : Nat) : LP Tryz.prog Tryz.f148.ntmps := loopC (c148E n) [] 0 (sb (acM [] [] Tryz.f148) 0) ⟨[(1, .fn 118 [.p 0 0]), (2, .b), (10, .p 1 0)], [(0, .cells [.s]), (1, .iter)], 2, 1, 1, 1⟩ [] [⟨.ret, ⟨[(6, .i .i64)], [], 2, 1, 1, 1⟩⟩, ⟨.exit 0, ⟨[], [], 2, 1, 1, 1⟩⟩] (strings_indexFunc_l0 n) n (by kernel_rfl) (by kernel_rfl)
def c148 (n : Nat) : FF Tryz.prog 148 [.s, .fn 118 [.p 0 0], .b] [.cells [.s]] 1 1 [⟨.i .i64, [], [], false⟩] := funC Tryz.func148 Tryz.call148 (c148E n) [c148l0 n] [] [] [0] (strings_indexFunc n) (by kernel_rfl) (by kernel_rfl)

def c117 (n : Nat) : FF Tryz.prog 117 [.s, .fn 118 [.p 0 0]] [.cells [.s]] 1 1 [⟨.i .i64, [], [], false⟩] := funC Tryz.func117 Tryz.call117 [(c148 n).e] [] [] [] [0] (strings_IndexFunc n) (by kernel_rfl) (by kernel_rfl)

def c97 (n : Nat) : PF Tryz.prog 97 [.s, .s] (.b) := pureC Tryz.func97 Tryz.call97 [(c117 n).e] [] [] [] (yearforms_only n) (by kernel_rfl) (by kernel_rfl)

def c121l0 (n : Nat) : LP Tryz.prog Tryz.f121.ntmps := loopC [] [] 0 (sb (acM [] [] Tryz.f121) 0) ⟨[(0, .s), (1, .i .u8)], [], 0, 0, 0, 0⟩ [] [⟨.exit 0, ⟨[(0, .s)], [], 0, 0, 0, 0⟩⟩] (strings_trimRightByte_l0 n) n (by kernel_rfl) (by kernel_rfl)
def c121 (n : Nat) : PF Tryz.prog 121 [.s, .i .u8] (.s) := pureC Tryz.func121 Tryz.call121 [] [c121l0 n] [] [] (strings_trimRightByte n) (by kernel_rfl) (by kernel_rfl)

def c120l0 (n : Nat) : LP Tryz.prog Tryz.f120.ntmps := loopC [] [] 0 (sb (acM [] [] Tryz.f120) 0) ⟨[(0, .s), (1, .i .u8)], [], 0, 0, 0, 0⟩ [] [⟨.exit 0, ⟨[(0, .s)], [], 0, 0, 0, 0⟩⟩] (strings_trimLeftByte_l0 n) n (by kernel_rfl) (by kernel_rfl)
def c120 (n : Nat) : PF Tryz.prog 120 [.s, .i .u8] (.s) := pureC Tryz.func120 Tryz.call120 [] [c120l0 n] [] [] (strings_trimLeftByte n) (by kernel_rfl) (by kernel_rfl)

def c98 (n : Nat) : PF Tryz.prog 98 [.s, .sk [48]] (.s) := pureC Tryz.func98 Tryz.call98 [(c121 n).e, (c120 n).e] [] [] [] (strings_Trim n) (by kernel_rfl) (by kernel_rfl)

def c115 (n : Nat) : PF Tryz.prog 115 [.s, .sk [88]] (.i .i64) := pureC Tryz.func115 Tryz.call115 [(c116 n).e] [noL 0 (sb (acM [] [] Tryz.f115) 0)] [] [] (int_stringslite_Index n) (by kernel_rfl) (by kernel_rfl)

def c90 (n : Nat) : PF Tryz.prog 90 [.s, .sk [88]] (.i .i64) := pureC Tryz.func90 Tryz.call90 [(c115 n).e] [] [] [] (strings_Index n) (by kernel_rfl) (by kernel_rfl)

def c53 (n : Nat) : PF Tryz.prog 53 [.s, .sk [88]] (.b) := pureC Tryz.func53 Tryz.call53 [(c90 n).e] [] [] [] (strings_Contains n) (by kernel_rfl) (by kernel_rfl)

def c75 (n : Nat) : PF Tryz.prog 75 [.ag [.b, .b, .s, .i .i64, .i .i64]] (.b) := pureC Tryz.func75 Tryz.call75 [(c53 n).e] [] [] [] (yearforms_Masked n) (by kernel_rfl) (by kernel_rfl)

noncomputable def e_lib_130 (_n : Nat) : Ent := parseE 130
theorem ok_lib_130 (n : Nat) : EntOK Tryz.prog (e_lib_130 n) := parseE_ok Tryz.call130 fun s h v hv w => (Tryz.strconv_ParseInt_10_at64_ok s h v hv w).mono fun e w' ⟨h1, h2⟩ => ⟨h1, h2.elim (fun h => h ▸ RowKit.Below.refl _ _) (fun ⟨t, h⟩ => h ▸ bytesWorld_below _ _ _)⟩
def c130 (n : Nat) : FE Tryz.prog := libF (ok_lib_130 n)

def c131l0 (n : Nat) : LP Tryz.prog Tryz.f131.ntmps := loopC [] [] 0 (sb (acM [] [] Tryz.f131) 0) ⟨[(4, .i .i64), (9, .i .i64), (10, .i .i64)], [], 0, 0, 0, 0⟩ [] [⟨.exit 0, ⟨[(4, .i .i64)], [], 0, 0, 0, 0⟩⟩] (ints_Pow10_l0 n) n (by kernel_rfl) (by kernel_rfl)
def c131 (n : Nat) : PF Tryz.prog 131 [.i .i64] (.tp [.i .i64, .i .i64]) := pureC Tryz.func131 Tryz.call131 [] [c131l0 n] [] [] (ints_Pow10 n) (by kernel_rfl) (by kernel_rfl)

def c158 (n : Nat) : PF Tryz.prog 158 [.i .i64] (.i .u64) := pureC Tryz.func158 Tryz.call158 [] [] [] [] (ints_size n) (by kernel_rfl) (by kernel_rfl)

def c157 (n : Nat) : PF Tryz.prog 157 [.i .u64, .i .u64] (.tp [.i .u64, .i .u64]) := pureC Tryz.func157 Tryz.call157 [] [] [] [] (math_bits_Mul64 n) (by kernel_rfl) (by kernel_rfl)

def c159 (n : Nat) : PF Tryz.prog 159 [.i .u64, .b] (.tp [.i .i64, .i .i64]) := pureC Tryz.func159 Tryz.call159 [] [] [] [] (ints_signed n) (by kernel_rfl) (by kernel_rfl)

def c132 (n : Nat) : PF Tryz.prog 132 [.i .i64, .i .i64] (.tp [.i .i64, .i .i64]) := pureC Tryz.func132 Tryz.call132 [(c158 n).e, (c157 n).e, (c159 n).e] [] [] [] (ints_Mul n) (by kernel_rfl) (by kernel_rfl)

def c103 (n : Nat) : PF Tryz.prog 103 [.ag [.b, .b, .s, .i .i64, .i .i64]] (.tp [.i .i64, .i .i64]) := pureC Tryz.func103 Tryz.call103 [(c130 n), (c131 n).e, (c132 n).e] [] [] [] (yearforms_magnitude n) (by kernel_rfl) (by kernel_rfl)

def c99 (n : Nat) : PF Tryz.prog 99 [.ag [.b, .b, .s, .i .i64, .i .i64]] (.b) := pureC Tryz.func99 Tryz.call99 [(c97 n).e, (c103 n).e] [] [] [] (yearforms_checkLong n) (by kernel_rfl) (by kernel_rfl)

def c67 (n : Nat) : PF Tryz.prog 67 [.ag [.b, .b, .s, .i .i64, .i .i64]] (.i .i64) := pureC Tryz.func67 Tryz.call67 [(c97 n).e, (c98 n).e, (c75 n).e, (c99 n).e] [] [] [] (yearforms_Check n) (by kernel_rfl) (by kernel_rfl)
theorem pure_yearforms_Check (n : Nat) : ∀ a r, yearforms_Check n a.1 a.2.1 a.2.2.1 a.2.2.2.1 a.2.2.2.2 = some r → PureOK Tryz.prog 67 (argP [.ag [.b, .b, .s, .i .i64, .i .i64]] a) (encP (.i .i64) r) := fun a r h => (c67 n).ok a r h

def c76 (n : Nat) : PF Tryz.prog 76 [.ag [.b, .b, .s, .i .i64, .i .i64]] (.tp [.i .i64, .i .i64]) := pureC Tryz.func76 Tryz.call76 [(c67 n).e, (c75 n).e, (c103 n).e] [] [] [] (yearforms_Value n) (by kernel_rfl) (by kernel_rfl)

noncomputable def un_lib_104 (l : List V) : Option (Int) := match l with
  | [.i .i64 a0] => some (a0)
  | _ => none
noncomputable def e_lib_104 (n : Nat) : Ent := pureE 104 un_lib_104 (fun a => seasons_Months n a) (fun r => .tp [.i .i64 r.1, .i .i64 r.2.1, .i .i64 r.2.2])
theorem ok_lib_104 (n : Nat) : EntOK Tryz.prog (e_lib_104 n) := pureE_ok (arg := fun a => [.i .i64 a]) Tryz.call104 (fun l a h => by
  unfold un_lib_104 at h
  split at h
  · cases h; rfl
  · cases h) (fun a => rfl) (fun a r h => hand_seasons_Months n (fun x r h => pure_seasons_Check n x r h) a r h)
def c104 (n : Nat) : FE Tryz.prog := libF (ok_lib_104 n)

def c139 (n : Nat) : PF Tryz.prog 139 [.i .i64] (.i .i64) := pureC Tryz.func139 Tryz.call139 [] [] [] [] (years_Check n) (by kernel_rfl) (by kernel_rfl)

def c133 (n : Nat) : PF Tryz.prog 133 [.i .i64, .i .i64] (.i .i64) := pureC Tryz.func133 Tryz.call133 [(c139 n).e] [] [] [] (months_Check n) (by kernel_rfl) (by kernel_rfl)

def c163 (n : Nat) : PF Tryz.prog 163 [.i .i64, .i .i64] (.tp [.i .i64, .i .i64]) := pureC Tryz.func163 Tryz.call163 [] [] [] [] (ints_Sub n) (by kernel_rfl) (by kernel_rfl)

def c137 (n : Nat) : PF Tryz.prog 137 [.i .i64, .i .i64] (.tp [.i .i64, .i .i64]) := pureC Tryz.func137 Tryz.call137 [(c163 n).e] [] [] [] (ints_Div n) (by kernel_rfl) (by kernel_rfl)
theorem pure_ints_Div (n : Nat) : ∀ a r, ints_Div n a.1 a.2 = some r → PureOK Tryz.prog 137 (argP [.i .i64, .i .i64] a) (encP (.tp [.i .i64, .i .i64]) r) := fun a r h => (c137 n).ok a r h

noncomputable def un_lib_175 (l : List V) : Option (Int) := match l with
  | [.i .i64 a0] => some (a0)
  | _ => none
noncomputable def e_lib_175 (n : Nat) : Ent := pureE 175 un_lib_175 (fun a => years_before n a) (fun r => .i .i64 r)
theorem ok_lib_175 (n : Nat) : EntOK Tryz.prog (e_lib_175 n) := pureE_ok (arg := fun a => [.i .i64 a]) Tryz.call175 (fun l a h => by
  unfold un_lib_175 at h
  split at h
  · cases h; rfl
  · cases h) (fun a => rfl) (fun a r h => hand_years_before n (fun x y r h => pure_ints_Div n (x, y) r h) a r h)
def c175 (n : Nat) : FE Tryz.prog := libF (ok_lib_175 n)

def c160 (n : Nat) : PF Tryz.prog 160 [.i .i64] (.i .i64) := pureC Tryz.func160 Tryz.call160 [(c175 n)] [] [] [] (years_start n) (by kernel_rfl) (by kernel_rfl)

def c134 (n : Nat) : PF Tryz.prog 134 [.i .i64] (.tp [.i .i64, .i .i64]) := pureC Tryz.func134 Tryz.call134 [(c139 n).e, (c160 n).e] [] [] [] (years_Start n) (by kernel_rfl) (by kernel_rfl)

def c161 (n : Nat) : PF Tryz.prog 161 [.i .i64] (.tp [.b, .i .i64]) := pureC Tryz.func161 Tryz.call161 [(c139 n).e, (c175 n)] [] [] [] (years_Leap n) (by kernel_rfl) (by kernel_rfl)
theorem pure_years_Leap (n : Nat) : ∀ a r, years_Leap n a = some r → PureOK Tryz.prog 161 (argP [.i .i64] a) (encP (.tp [.b, .i .i64]) r) := fun a r h => (c161 n).ok a r h

noncomputable def un_lib_135 (l : List V) : Option (Int × Int) := match l with
  | [.i .i64 a0, .i .i64 a1] => some (a0, a1)
  | _ => none
noncomputable def e_lib_135 (n : Nat) : Ent := pureE 135 un_lib_135 (fun a => months_length n a.1 a.2) (fun r => .i .i64 r)
theorem ok_lib_135 (n : Nat) : EntOK Tryz.prog (e_lib_135 n) := pureE_ok (arg := fun a => [.i .i64 a.1, .i .i64 a.2]) Tryz.call135 (fun l a h => by
  unfold un_lib_135 at h
  split at h
  · cases h; rfl
  · cases h) (fun a => rfl) (fun a r h => hand_months_length n (fun x r h => pure_years_Leap n x r h) a.1 a.2 r h)
def c135 (n : Nat) : FE Tryz.prog := libF (ok_lib_135 n)

def c105E (n : Nat) : List (FE Tryz.prog) := [(c133 n).e, (c134 n).e, (c135 n)]
def c105l0 (n : Nat) : LP Tryz.prog Tryz.f105.ntmps := loopC (c105E n) [] 0 (sb (acM [] [] Tryz.f105) 0) ⟨[(0, .i .i64), (7, .i .i64), (22, .i .i64), (23, .i .i64)], [], 0, 0, 0, 0⟩ [] [⟨.exit 0, ⟨[(7, .i .i64)], [], 0, 0, 0, 0⟩⟩] (months_Start_l0 n) n (by kernel_rfl) (by kernel_rfl)
def c105 (n : Nat) : PF Tryz.prog 105 [.i .i64, .i .i64] (.tp [.i .i64, .i .i64]) := pureC Tryz.func105 Tryz.call105 (c105E n) [c105l0 n] [] [] (months_Start n) (by kernel_rfl) (by kernel_rfl)

noncomputable def un_lib_136 (l : List V) : Option (Int × Int) := match l with
  | [.i .i64 a0, .i .i64 a1] => some (a0, a1)
  | _ => none
noncomputable def e_lib_136 (n : Nat) : Ent := pureE 136 un_lib_136 (fun a => ints_Add n a.1 a.2) (fun r => .tp [.i .i64 r.1, .i .i64 r.2])
theorem ok_lib_136 (n : Nat) : EntOK Tryz.prog (e_lib_136 n) := pureE_ok (arg := fun a => [.i .i64 a.1, .i .i64 a.2]) Tryz.call136 (fun l a h => by
  unfold un_lib_136 at h
  split at h
  · cases h; rfl
  · cases h) (fun a => rfl) (fun a r h => hand_ints_Add n a.1 a.2 r h)
def c136 (n : Nat) : FE Tryz.prog := libF (ok_lib_136 n)

def c138 (n : Nat) : PF Tryz.prog 138 [.i .i64, .i .i64] (.tp [.i .i64, .i .i64]) := pureC Tryz.func138 Tryz.call138 [] [] [] [] (ints_Mod n) (by kernel_rfl) (by kernel_rfl)

def c106 (n : Nat) : PF Tryz.prog 106 [.i .i64, .i .i64, .i .i64] (.tp [.i .i64, .i .i64, .i .i64]) := pureC Tryz.func106 Tryz.call106 [(c133 n).e, (c136 n), (c137 n).e, (c138 n).e, (c139 n).e] [] [] [] (months_Add n) (by kernel_rfl) (by kernel_rfl)

def c107 (n : Nat) : PF Tryz.prog 107 [.i .i64, .i .i64] (.tp [.i .i64, .i .i64]) := pureC Tryz.func107 Tryz.call107 [(c105 n).e, (c135 n)] [] [] [] (months_End n) (by kernel_rfl) (by kernel_rfl)

def c77 (n : Nat) : PF Tryz.prog 77 [.i .i64, .i .i64] (.tp [.ag [.i .i8, .i .i64, .i .i8, .i .i64], .i .i64]) := pureC Tryz.func77 Tryz.call77 [(c104 n), (c105 n).e, (c106 n).e, (c107 n).e] [] [] [] (seasons_Run n) (by kernel_rfl) (by kernel_rfl)

def c31 (n : Nat) : PF Tryz.prog 31 [.ag [.b, .b, .s, .i .i64, .i .i64, .s, .s, .i .u8, .i .u8, .i .u8]] (.b) := pureC Tryz.func31 Tryz.call31 [(c67 n).e, (c14 n).e, (c75 n).e, (c76 n).e, (c77 n).e] [] [] [] (dateforms_checkYear n) (by kernel_rfl) (by kernel_rfl)

def c32l0 (n : Nat) : LP Tryz.prog Tryz.f32.ntmps := loopC [] [] 0 (sb (acM [] [] Tryz.f32) 0) ⟨[(0, .s), (1, .i .i64), (5, .i .i64)], [], 0, 0, 0, 0⟩ [] [⟨.ret, ⟨[(4, .b)], [], 0, 0, 0, 0⟩⟩, ⟨.exit 0, ⟨[], [], 0, 0, 0, 0⟩⟩] (dateforms_agrees_l0 n) n (by kernel_rfl) (by kernel_rfl)
def c32 (n : Nat) : PF Tryz.prog 32 [.s, .i .i64] (.b) := pureC Tryz.func32 Tryz.call32 [] [c32l0 n] [] [] (dateforms_agrees n) (by kernel_rfl) (by kernel_rfl)

def c16l0 (n : Nat) : LP Tryz.prog Tryz.f16.ntmps := loopC [] [] 0 (sb (acM [] [] Tryz.f16) 0) ⟨[(3, .i .i64), (10, .ag [.s, .s]), (11, .i .i64)], [], 1, 0, 0, 0⟩ [] [⟨.exit 0, ⟨[(3, .i .i64)], [], 1, 0, 0, 0⟩⟩] (dateforms_Components_l0 n) n (by kernel_rfl) (by kernel_rfl)
def c16 (n : Nat) : PF Tryz.prog 16 [.ag [.b, .b, .s, .i .i64, .i .i64, .s, .s, .i .u8, .i .u8, .i .u8]] (.i .i64) := pureC Tryz.func16 Tryz.call16 [] [c16l0 n] [] [] (dateforms_Components n) (by kernel_rfl) (by kernel_rfl)

def c11 (n : Nat) : PF Tryz.prog 11 [.ag [.b, .b, .s, .i .i64, .i .i64, .s, .s, .i .u8, .i .u8, .i .u8]] (.i .i64) := pureC Tryz.func11 Tryz.call11 [(c14 n).e, (c31 n).e, (c32 n).e, (c16 n).e, (c33 n).e] [] [] [] (dateforms_Check n) (by kernel_rfl) (by kernel_rfl)

def c8 (n : Nat) : PF Tryz.prog 8 [.s] (.tp [.ag [.b, .b, .s, .i .i64, .i .i64, .s, .s, .i .u8, .i .u8, .i .u8], .i .i64, .i .i64]) := pureC Tryz.func8 Tryz.call8 [(c20 n).e, (c11 n).e] [] [] [] (dateforms_Parse n) (by kernel_rfl) (by kernel_rfl)

def c65l0 (n : Nat) : LP Tryz.prog Tryz.f65.ntmps := loopC [] [] 0 (sb (acM [] [] Tryz.f65) 0) ⟨[(0, .sl 0 0 .q (some .q)), (3, .i .u8), (4, .i .i64)], [(0, .ints .u8 3)], 1, 1, 1, 1⟩ [] [⟨.exit 0, ⟨[(3, .i .u8)], [], 1, 1, 1, 1⟩⟩] (slices_Min_uint8_uint8_l0 n) n (by kernel_rfl) (by kernel_rfl)
def c65 (n : Nat) : FF Tryz.prog 65 [.sl 0 0 .q (some .q)] [.ints .u8 3] 1 1 [⟨.it 9 (.s), [], [], true⟩, ⟨.i .u8, [], [], false⟩] := funC Tryz.func65 Tryz.call65 [] [c65l0 n] [] [] [0] (slices_Min_uint8_uint8 n) (by kernel_rfl) (by kernel_rfl)

def c66l0 (n : Nat) : LP Tryz.prog Tryz.f66.ntmps := loopC [] [] 0 (sb (acM [] [] Tryz.f66) 0) ⟨[(0, .sl 0 0 .q (some .q)), (3, .i .u8), (4, .i .i64)], [(0, .ints .u8 3)], 1, 1, 1, 1⟩ [] [⟨.exit 0, ⟨[(3, .i .u8)], [], 1, 1, 1, 1⟩⟩] (slices_Max_uint8_uint8_l0 n) n (by kernel_rfl) (by kernel_rfl)
def c66 (n : Nat) : FF Tryz.prog 66 [.sl 0 0 .q (some .q)] [.ints .u8 3] 1 1 [⟨.it 9 (.s), [], [], true⟩, ⟨.i .u8, [], [], false⟩] := funC Tryz.func66 Tryz.call66 [] [c66l0 n] [] [] [0] (slices_Max_uint8_uint8 n) (by kernel_rfl) (by kernel_rfl)

def c27 (n : Nat) : PF Tryz.prog 27 [.ai .u8 3, .i .i64] (.tp [.ai .u8 3, .ai .u8 3, .i .i64]) := pureC Tryz.func27 Tryz.call27 [(c33 n).e, (c65 n).e, (c66 n).e] [] [] [] (marks_Plain n) (by kernel_rfl) (by kernel_rfl)

end
end Go.Sh
