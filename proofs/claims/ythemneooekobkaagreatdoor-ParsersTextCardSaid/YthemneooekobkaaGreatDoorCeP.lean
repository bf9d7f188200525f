/- Each function of the program computes its plain function: the certificates.
   Conditions: none. Printed by the bench tool gen.py. -/
import Derived.Test.YthemneooekobkaaGreatDoorAbsPat
import Derived.Test.YthemneooekobkaaGreatDoorHGa
import Derived.Test.YthemneooekobkaaGreatDoorHGb
import Derived.Test.YthemneooekobkaaGreatDoorHGe
set_option linter.unusedVariables false
set_option linter.unusedSimpArgs false
set_option maxRecDepth 100000
set_option maxHeartbeats 4000000
namespace Go.Sh
open Go.Abs Go.Proofs
noncomputable section
abbrev q30:List PV:=[.s,.i .i64]
abbrev q74:List PB:=[.cells q30]
abbrev q47:List (Nat×PB):=[(0,.cells q30)]
abbrev q75:List (Nat×PV):=[(4,.i .i64)]
abbrev q93:List PX:=[⟨.ret,⟨q75,[],1,1,1,1⟩⟩,⟨.exit 0,⟨[],[],1,1,1,1⟩⟩]
abbrev q89:List (Nat×PB):=[(1,.cells q30)]
abbrev q37:List PV:=[.b,.b,.s,.i .i64,.i .i64]
abbrev q98:List PV:=[.p 0 0,.p 1 0]
abbrev q19:List PV:=[.b,.b,.s,.i .i64,.i .i64,.s,.s,.i .u8,.i .u8,.i .u8]
abbrev q94:List PX:=[⟨.ret,⟨q75,[],1,0,0,0⟩⟩,⟨.exit 0,⟨[],[],1,0,0,0⟩⟩]
abbrev q97:List PV:=[.ai .u8 3,.i .i64]
abbrev q82:List PB:=[.cells [.fn 145 [.p 1 0]],.cells [.fn 1000144 [.p 3 0]],.cells q19,.cells q30]
abbrev q80:List (Nat×PB):=[(2,.cells q19),(3,.cells q30)]
abbrev q76:List PV:=[.ag q19]
abbrev q92:List (Nat×PV):=[(0,.s),(7,.s),(8,.i .i64),(9,.i .i64),(12,.i .i64)]
abbrev q99:PSt:=⟨[],[],0,0,0,0⟩
abbrev q109:List PV:=[.ag q37]
abbrev q60:List PV:=[.i .i8,.i .i64,.i .i8,.i .i64]
abbrev q108:PSt:=⟨[(0,.s),(1,.i .i64),(5,.i .i64)],[],0,0,0,0⟩
abbrev q71:List (Nat×PB):=[(0,.rows [.i .i64])]
abbrev q34:List PV:=[.b,.b,.s,.i .i64,.i .i64,.s,.s,.i .u8,.i .u8,.i .u8,.ws 0,.ws 1]
abbrev q81:List PB:=[.rows [.i .i64]]
abbrev q87:PSt:=⟨[(2,.i .i64)],[],1,0,0,0⟩
abbrev q66:PSt:=⟨[(0,.s),(1,.i .i64),(2,.b),(8,.i .u8),(9,.i .u8),(10,.p 0 0),(11,.p 1 0),(12,.i .i64)],[(0,.ints .u8 18),(1,.ints .u8 18)],2,0,0,0⟩
abbrev q90:List PB:=[.rows [.i .i64],.rows [.i .i64]]
abbrev q64:List (Nat×PB):=[(0,.rows [.i .i64]),(1,.rows [.i .i64]),(2,.cells q34),(3,.cells [.i .i64,.i .i64,.i .i64]),(4,.cells [.b]),(5,.cells [.ik .i64 0,.ik .i64 0,.ik .i64 0])]
abbrev q15:List (Nat×PB):=[(0,.rows [.i .i64]),(1,.rows [.i .i64]),(2,.cells q34),(3,.cells [.i .i64,.i .i64,.i .i64]),(4,.cells [.b]),(5,.cells [.i .i64,.i .i64,.i .i64]),(62,.rows [.i .i64]),(63,.rows [.i .i64])]
abbrev q18:List (Nat×PB):=[(0,.rows [.i .i64]),(1,.rows [.i .i64]),(2,.cells q34),(3,.cells [.i .i64,.i .i64,.i .i64]),(4,.cells [.b]),(5,.cells [.i .i64,.i .i64,.i .i64])]
abbrev q57:PSt:=⟨[(3,.p 2 0),(4,.p 3 0),(5,.p 4 0),(6,.p 5 0),(8,.i .i64),(9,.ws 62),(10,.ws 63),(11,.fn 202 [.p 4 0]),(12,.i .i64),(15,.i .i64),(16,.b),(17,.i .i64),(53,.ws 62),(54,.i .i64),(55,.i .i64)],q15,64,2,2,2⟩
abbrev q58:PSt:=⟨[(3,.p 2 0),(4,.p 3 0),(5,.p 4 0),(6,.p 5 0),(8,.i .i64),(9,.ws 0),(10,.ws 1),(11,.fn 202 [.p 4 0]),(12,.i .i64),(15,.i .i64),(16,.b),(17,.i .i64),(53,.ws 0),(54,.i .i64),(55,.i .i64)],q18,62,2,2,2⟩
abbrev q73:List (Nat×PV):=[(6,.p 5 0),(7,.b)]
abbrev q43:List (Nat×PB):=[(5,.cells [.i .i64,.i .i64,.i .i64])]
abbrev q101:PSt:=⟨q73,q43,64,2,2,2⟩
abbrev q33:PSt:=⟨[(3,.p 2 0),(4,.p 3 0),(5,.p 4 0),(6,.p 5 0),(8,.i .i64),(9,.ws 62),(10,.ws 63),(11,.fn 202 [.p 4 0]),(12,.i .i64),(53,.ws 62),(54,.i .i64),(55,.i .i64)],q15,64,2,2,2⟩
abbrev q102:PSt:=⟨q73,q43,62,2,2,2⟩
abbrev q35:PSt:=⟨[(3,.p 2 0),(4,.p 3 0),(5,.p 4 0),(6,.p 5 0),(8,.i .i64),(9,.ws 0),(10,.ws 1),(11,.fn 202 [.p 4 0]),(12,.i .i64),(53,.ws 0),(54,.i .i64),(55,.i .i64)],q18,62,2,2,2⟩
abbrev q11:List Lf:=[.bo,.bo,.s,.i .i64,.i .i64,.s,.s,.i .u8,.i .u8,.i .u8,.bo,.bo,.bo,.s,.i .i64,.i .i64,.s,.s,.i .u8,.i .u8,.i .u8]
abbrev q103:List PB:=[.rows q11]
abbrev q25:List PV:=[.i .u8,.bd,.b,.s,.i .i64,.i .i64,.s,.s,.i .u8,.i .u8,.i .u8,.i .u8,.bd,.b,.s,.i .i64,.i .i64,.s,.s,.i .u8,.i .u8,.i .u8,.i .u8,.bd,.b,.s,.i .i64,.i .i64,.s,.s,.i .u8,.i .u8,.i .u8,.rs 21 0 0 .q (some .q),.b,.b]
abbrev q38:List PV:=[.i .u8,.b,.b,.s,.i .i64,.i .i64,.s,.s,.i .u8,.i .u8,.i .u8]
abbrev q24:List PV:=[.bd,.b,.s,.i .i64,.i .i64,.s,.s,.i .u8,.i .u8,.i .u8,.b,.bd,.b,.s,.i .i64,.i .i64,.s,.s,.i .u8,.i .u8,.i .u8]
abbrev q36:List PV:=[.bd,.b,.s,.i .i64,.i .i64,.s,.s,.i .u8,.i .u8,.i .u8]
abbrev q53:List PV:=[.i .u8,.bd,.b,.s,.i .i64,.i .i64,.s,.s,.i .u8,.i .u8,.i .u8,.i .u8,.bd,.b,.s,.i .i64,.i .i64,.s,.s,.i .u8,.i .u8,.i .u8,.i .u8,.bd,.b,.s,.i .i64,.i .i64,.s,.s,.i .u8,.i .u8,.i .u8,.rs 21 2 0 .q (some .q),.b,.b]
abbrev q14:List PV:=[.ik .u8 0,.bk false,.bk false,.sk [],.ik .i64 0,.ik .i64 0,.sk [],.sk [],.ik .u8 0,.ik .u8 0,.ik .u8 0,.ik .u8 0,.bk false,.bk false,.sk [],.ik .i64 0,.ik .i64 0,.sk [],.sk [],.ik .u8 0,.ik .u8 0,.ik .u8 0,.ik .u8 0,.bk false,.bk false,.sk [],.ik .i64 0,.ik .i64 0,.sk [],.sk [],.ik .u8 0,.ik .u8 0,.ik .u8 0,.ws 3,.bk false,.bk false]
abbrev q83:List (Nat×PV):=[(0,.p 0 0),(2,.p 1 0),(3,.p 2 0),(5,.s),(6,.ws 3),(7,.p 4 0),(9,.i .i64)]
abbrev q26:List PV:=[.ik .u8 0,.bk false,.bk false,.sk [],.ik .i64 0,.ik .i64 0,.sk [],.sk [],.ik .u8 0,.ik .u8 0,.ik .u8 0,.ik .u8 0,.bk false,.bk false,.sk [],.ik .i64 0,.ik .i64 0,.sk [],.sk [],.ik .u8 0,.ik .u8 0,.ik .u8 0,.ik .u8 0,.bk false,.bk false,.sk [],.ik .i64 0,.ik .i64 0,.sk [],.sk [],.ik .u8 0,.ik .u8 0,.ik .u8 0,.ws 5,.bk false,.bk false]
abbrev q42:List PV:=[.i .u8,.bk false,.bk false,.sk [],.ik .i64 0,.ik .i64 0,.sk [],.sk [],.ik .u8 0,.ik .u8 0,.ik .u8 0,.ik .u8 0,.bk false,.bk false,.sk [],.ik .i64 0,.ik .i64 0,.sk [],.sk [],.ik .u8 0,.ik .u8 0,.ik .u8 0,.ik .u8 0,.bk false,.bk false,.sk [],.ik .i64 0,.ik .i64 0,.sk [],.sk [],.ik .u8 0,.ik .u8 0,.ik .u8 0,.ws 6,.b,.bk false]
abbrev q20:List (Nat×PB):=[(0,.cells q30),(1,.cells q26),(2,.cells q42),(3,.rows [.i .i64]),(4,.cells [.bd,.b,.s,.i .i64,.i .i64,.s,.s,.i .u8,.i .u8,.i .u8,.bk false,.bk false,.bk false,.sk [],.ik .i64 0,.ik .i64 0,.sk [],.sk [],.ik .u8 0,.ik .u8 0,.ik .u8 0]),(5,.rows q11),(6,.rows q11)]
abbrev q78:PSt:=⟨[(0,.p 0 0),(2,.p 1 0),(3,.p 2 0),(5,.s),(6,.ws 3),(7,.p 4 0),(9,.i .i64),(49,.b)],q20,7,1,0,1⟩
abbrev q95:List (Nat×PV):=[(0,.p 0 0),(2,.p 1 0),(3,.p 2 0),(5,.s),(6,.ws 3)]
abbrev q13:List PV:=[.ik .u8 0,.bk false,.bk false,.sk [],.ik .i64 0,.ik .i64 0,.sk [],.sk [],.ik .u8 0,.ik .u8 0,.ik .u8 0,.ik .u8 0,.bk false,.bk false,.sk [],.ik .i64 0,.ik .i64 0,.sk [],.sk [],.ik .u8 0,.ik .u8 0,.ik .u8 0,.ik .u8 0,.bk false,.bk false,.sk [],.ik .i64 0,.ik .i64 0,.sk [],.sk [],.ik .u8 0,.ik .u8 0,.ik .u8 0,.ws 4,.bk false,.bk false]
abbrev q16:List PV:=[.i .u8,.bd,.b,.s,.i .i64,.i .i64,.s,.s,.i .u8,.i .u8,.i .u8,.i .u8,.bd,.b,.s,.i .i64,.i .i64,.s,.s,.i .u8,.i .u8,.i .u8,.i .u8,.bd,.b,.s,.i .i64,.i .i64,.s,.s,.i .u8,.i .u8,.i .u8,.ws 4,.b,.b]
abbrev q59:List PV:=[.i .u8,.bd,.b,.s,.i .i64,.i .i64,.s,.s,.i .u8,.i .u8,.i .u8,.i .u8,.bd,.b,.s,.i .i64,.i .i64,.s,.s,.i .u8,.i .u8,.i .u8,.i .u8,.bd,.b,.s,.i .i64,.i .i64,.s,.s,.i .u8,.i .u8,.i .u8,.ws 5,.b,.b]
abbrev q51:List PV:=[.p 0 0,.i .u8,.bd,.b,.s,.i .i64,.i .i64,.s,.s,.i .u8,.i .u8,.i .u8,.i .u8,.bd,.b,.s,.i .i64,.i .i64,.s,.s,.i .u8,.i .u8,.i .u8,.i .u8,.bd,.b,.s,.i .i64,.i .i64,.s,.s,.i .u8,.i .u8,.i .u8,.rs 21 1 0 .q (some .q),.b,.b,.i .i64]
abbrev q55:List PV:=[.p 0 0,.i .u8,.bd,.b,.s,.i .i64,.i .i64,.s,.s,.i .u8,.i .u8,.i .u8,.i .u8,.bd,.b,.s,.i .i64,.i .i64,.s,.s,.i .u8,.i .u8,.i .u8,.i .u8,.bd,.b,.s,.i .i64,.i .i64,.s,.s,.i .u8,.i .u8,.i .u8,.ws 1,.b,.b,.i .i64]
def c120 (n:Nat):FF Tryz.prog 120 [.p 0 0] q74 1 1 [⟨.s,[],[],false⟩]:=funC Tryz.func120 Tryz.call120 [] [] [] [] [0] (cK n)
def c73 (n:Nat):FF Tryz.prog 73 [.p 0 0] q74 1 1 [⟨.tp [.i .u8,.b],[],[],false⟩]:=funC Tryz.func73 Tryz.call73 [(c120 n).e] [] [] [] [0] (bj n)
def c123 (n:Nat):FF Tryz.prog 123 [.p 0 0] q74 1 1 [⟨.i .i64,[],[],false⟩]:=funC Tryz.func123 Tryz.call123 [] [] [] [] [0] (bI n)
def c98 (n:Nat):FF Tryz.prog 98 [.p 0 0,.i .i64,.i .i64] q74 1 1 [⟨.it 126 (.ag [.i .i64,.i .i64]),[],[],true⟩]:=funC Tryz.func98 Tryz.call98 [] [] [] [] [0] (aR n)
def c250 (_n:Nat):FE Tryz.prog:=libF (MO Tryz.func250 (by kernel_rfl) (by kernel_rfl) (by kernel_rfl) (by kernel_rfl))
def c219 (n:Nat):PF Tryz.prog 219 [.s,.i .u8] (.i .i64):=aQ Tryz.func219 Tryz.call219 [(c250 n)] [] [] [] (dk n)
def c176 (n:Nat):PF Tryz.prog 176 [.s,.i .u8] (.i .i64):=aQ Tryz.func176 Tryz.call176 [(c219 n).e] [] [] [] (dF n)
def c121 (n:Nat):FF Tryz.prog 121 [.p 0 0,.s] q74 0 1 [⟨.it 126 (.ag [.i .i64,.i .i64]),q47,[],true⟩,⟨.i .u8,q47,[],false⟩]:=funC Tryz.func121 Tryz.call121 [(c73 n).e,(c123 n).e,(c98 n).e,(c176 n).e] [] [] [] [0] (cw n)
def c122 (n:Nat):PF Tryz.prog 122 [.i .u8] (.tp [.s,.s]):=aQ Tryz.func122 Tryz.call122 [] [] [] [] (mb n)
def c111 (n:Nat):PF Tryz.prog 111 [.s,.s] (.b):=aQ Tryz.func111 Tryz.call111 [] [] [] [] (gz n)
def c65 (n:Nat):PF Tryz.prog 65 [.s,.s] (.b):=aQ Tryz.func65 Tryz.call65 [(c111 n).e] [] [] [] (jF n)
def c124 (n:Nat):FF Tryz.prog 124 [.p 0 0,.s] q74 1 1 [⟨.b,[],[],false⟩]:=funC Tryz.func124 Tryz.call124 [(c120 n).e,(c65 n).e] [] [] [] [0] (fH n)
def c76 (n:Nat):FF Tryz.prog 76 [.p 0 0,.s] q74 0 1 [⟨.b,q47,[],false⟩]:=funC Tryz.func76 Tryz.call76 [(c124 n).e] [] [] [] [0] (aE n)
def c193 (n:Nat):PF Tryz.prog 193 [] (.ag [.s,.s,.s,.s]):=aQ Tryz.func193 Tryz.call193 [] [] [] [] (tN n)
def Xo (n:Nat):LP Tryz.prog Tryz.f107.ntmps:=dB [] [] 0 (sb (acM [] [] Tryz.f107) 0) false ⟨[(0,.sl 0 0 4 (some (.k 4))),(1,.s),(7,.i .i64),(8,.i .i64)],[(0,.cells [.s,.s,.s,.s])],1,1,1,1⟩ [] q93 (iS n) n
def c107 (n:Nat):FF Tryz.prog 107 [.sl 0 0 4 (some (.k 4)),.s] [.cells [.s,.s,.s,.s]] 1 1 [⟨.i .i64,[],[],false⟩]:=funC Tryz.func107 Tryz.call107 [] [Xo n] [] [] [0] (jQ n)
def c143 (n:Nat):PF Tryz.prog 143 [.i .u8] (.tp [.i .u8,.b]):=aQ Tryz.func143 Tryz.call143 [(c193 n).e,(c107 n).e] [] [] [] (qi n)
def c142 (n:Nat):FF Tryz.prog 142 [.p 0 0] [.cells [.p 1 0],.cells q30] 1 2 [⟨.it 126 (.ag [.i .i64,.i .i64]),q89,[],true⟩,⟨.i .u8,q89,[],false⟩]:=funC Tryz.func142 Tryz.call142 [(c73 n).e,(c143 n).e,(c121 n).e] [] [] [] [0,1] (cM n)
def Ws (n:Nat):List (FE Tryz.prog):=[(c123 n).e,(c73 n).e,(c176 n).e,(c98 n).e]
def Wx (n:Nat):LP Tryz.prog Tryz.f144.ntmps:=dB (Ws n) [] 0 (sb (acM [] [] Tryz.f144) 0) false ⟨[(0,.p 0 0),(1,.s),(2,.i .i64),(3,.i .i64),(9,.i .i64),(10,.i .u8),(11,.b)],q47,1,1,0,1⟩ [] [⟨.exit 0,⟨[(0,.p 0 0),(2,.i .i64),(9,.i .i64)],q47,1,1,0,1⟩⟩] (di n) n
def c144 (n:Nat):FF Tryz.prog 144 [.p 0 0,.s,.i .i64,.i .i64] q74 0 1 [⟨.it 126 (.ag [.i .i64,.i .i64]),q47,[],true⟩,⟨.s,q47,[],false⟩]:=funC Tryz.func144 Tryz.call144 (Ws n) [Wx n] [] [] [0] (cg n)
noncomputable def PC (_n:Nat):Ent:=Vi 99 263
theorem LK (n:Nat):ge Tryz.prog (PC n):=OT Tryz.call99 (λs n hl h w=>(Tryz.strconv_Atoi s n hl h w).mono λe w' ⟨h1,t,h2⟩=>⟨h1,h2▸qD _ _ _⟩) (λs hl h w hg=>QV s hl h w hg)
def c99 (n:Nat):FE Tryz.prog:=libF (LK n)
def c194 (n:Nat):FF Tryz.prog 194 [.s,.p 0 0] [.cells [.p 1 0],.cells q30] 1 2 [⟨.i .i64,q89,[],false⟩,⟨.it 126 (.ag [.i .i64,.i .i64]),q89,[],true⟩]:=funC Tryz.func194 Tryz.call194 [(c76 n).e,(c121 n).e,(c144 n).e,(c99 n)] [] [] [] [0,1] (dp n)
def c147 (n:Nat):FF Tryz.prog 147 [.p 0 0] q74 0 1 [⟨.it 126 (.ag [.i .i64,.i .i64]),q47,[],true⟩,⟨.ag q37,q47,[],false⟩]:=funC Tryz.func147 Tryz.call147 [(c76 n).e,(c121 n).e,(c144 n).e,(c194 n).e] [] [] [] [0] (lY n)
def c146 (n:Nat):FF Tryz.prog 146 q98 [.cells [.p 2 0],.cells q19,.cells q30] 1 3 [⟨.it 126 (.ag [.i .i64,.i .i64]),[(1,.cells q19),(2,.cells q30)],[],true⟩,⟨.tp [],[(1,.cells q19),(2,.cells q30)],[],false⟩]:=funC Tryz.func146 Tryz.call146 [(c147 n).e] [] [] [] [0,1,2] (kh n)
def c192 (n:Nat):PF Tryz.prog 192 [.i .u8] (.i .i64):=aQ Tryz.func192 Tryz.call192 [] [] [] [] (iy n)
def VC (n:Nat):List (FE Tryz.prog):=[(c192 n).e]
def VO (n:Nat):LP Tryz.prog Tryz.f153.ntmps:=dB (VC n) [] 0 (sb (acM [] [] Tryz.f153) 0) false ⟨[(1,.i .i64),(13,.ai .u8 3),(14,.i .i64)],[],1,0,0,0⟩ [] q94 (il n) n
def c153 (n:Nat):PF Tryz.prog 153 q97 (.i .i64):=aQ Tryz.func153 Tryz.call153 (VC n) [VO n] [] [] (dL n)
def c195 (n:Nat):FF Tryz.prog 195 [.i .i64,.p 2 0,.p 0 0,.p 1 0] [.ints .u8 3,.ints .u8 3,.cells [.i .u8]] 2 3 [⟨.i .u8,[(2,.cells [.i .u8])],[],false⟩]:=funC Tryz.func195 Tryz.call195 [] [] [] [] [2,0,1] (sN n)
def WF (n:Nat):List (FE Tryz.prog):=[(c153 n).e,(c195 n).e]
def Wg (n:Nat):LP Tryz.prog Tryz.f150.ntmps:=dB (WF n) [] 1 (sb (acM [0] [] Tryz.f150) 1) false ⟨[(6,.p 2 0),(12,.fn 195 [.p 5 0,.p 1 0,.p 0 0]),(13,.p 6 0),(14,.i .i64)],[(0,.ints .u8 3),(1,.ints .u8 3),(2,.ints .u8 3),(5,.cells [.i .u8]),(6,.ints .u8 3)],7,0,0,0⟩ [] [⟨.exit 2,⟨[(6,.p 2 0),(13,.p 6 0)],[(2,.ints .u8 3),(6,.ints .u8 3)],7,0,0,0⟩⟩] (ru n) n
def c150 (n:Nat):PF Tryz.prog 150 [.ai .u8 3,.ai .u8 3,.i .i64] (.tp q97):=aQ Tryz.func150 Tryz.call150 (WF n) [Wg n] [0] [] (eN n)
def c145 (n:Nat):FF Tryz.prog 145 [.p 0 0] [.cells [.fn 1000144 [.p 1 0]],.cells q30] 1 2 [⟨.it 126 (.ag [.i .i64,.i .i64]),q89,[],true⟩,⟨.s,q89,[],false⟩]:=funC Tryz.func145 Tryz.call145 [(c144 n).e] [] [] [] [0,1] (iU n)
def c148 (n:Nat):FF Tryz.prog 148 [.p 0 0,.p 2 0] q82 2 4 [⟨.it 126 (.ag [.i .i64,.i .i64]),q80,[],true⟩,⟨.tp [],q80,[],false⟩]:=funC Tryz.func148 Tryz.call148 [(c145 n).e] [] [] [] [0,2,1,3] (ki n)
def c149 (n:Nat):FF Tryz.prog 149 [.p 0 0,.p 2 0] q82 2 4 [⟨.it 126 (.ag [.i .i64,.i .i64]),q80,[],true⟩,⟨.tp [],q80,[],false⟩]:=funC Tryz.func149 Tryz.call149 [(c145 n).e] [] [] [] [0,2,1,3] (kl n)
def c95 (n:Nat):FF Tryz.prog 95 [.p 0 0] q74 0 1 [⟨.it 126 (.ag [.i .i64,.i .i64]),q47,[],true⟩,⟨.tp [.ag q19,.ai .i64 3],q47,[],false⟩]:=funC Tryz.func95 Tryz.call95 [(c142 n).e,(c123 n).e,(c146 n).e,(c150 n).e,(c76 n).e,(c148 n).e,(c149 n).e] [] [0] [] [0] (iZ n)
def c100 (n:Nat):PF Tryz.prog 100 [.i .i64] (.i .i64):=aQ Tryz.func100 Tryz.call100 [] [] [] [] (dN n)
theorem pure_seasons_Check (n:Nat):∀a r,dN n a=some r->nZ Tryz.prog 100 (argP [.i .i64] a) (encP (.i .i64) r):=λa r h=>(c100 n).ok a r h
def c58 (n:Nat):PF Tryz.prog 58 q76 (.tp [.i .i64,.b]):=aQ Tryz.func58 Tryz.call58 [(c99 n),(c100 n).e] [] [] [] (bU n)
def c216 (n:Nat):PF Tryz.prog 216 [.i .i32] (.b):=aQ Tryz.func216 Tryz.call216 [] [] [] [] (ee n)
def LE (n:Nat):List (FE Tryz.prog):=[(c176 n).e,(c216 n).e]
def XK (n:Nat):LP Tryz.prog Tryz.f170.ntmps:=dB (LE n) [] 0 (sb (acM [] [] Tryz.f170) 0) false ⟨[(175,.p 0 0)],[(0,.iter)],1,0,0,0⟩ [] [⟨.ret,⟨q75,[],1,0,0,0⟩⟩,⟨.exit 9,⟨[],[],1,0,0,0⟩⟩] (dR n) n
def V7 (n:Nat):LP Tryz.prog Tryz.f170.ntmps:=dB (LE n) [] 2 (sb (sb (acM [] [] Tryz.f170) 1).body 2) false ⟨q92,[],128,0,0,0⟩ [] [⟨.exit 3,⟨[(8,.i .i64),(9,.i .i64)],[],128,0,0,0⟩⟩] (mR n) n
def Tf (n:Nat):LP Tryz.prog Tryz.f170.ntmps:=dB (LE n) [] 2 (sb (sb (acM [] [] Tryz.f170) 1).body 2) false ⟨q92,[],56,0,0,0⟩ [] [⟨.exit 3,⟨[(8,.i .i64),(9,.i .i64)],[],56,0,0,0⟩⟩] (mD n) n
def WB (n:Nat):LP Tryz.prog Tryz.f170.ntmps:=dB (LE n) [altL (V7 n) (Tf n) rfl] 1 (sb (acM [] [] Tryz.f170) 1) false ⟨[(0,.s),(7,.s),(8,.i .i64),(9,.i .i64)],[],0,0,0,0⟩ [] [⟨.ret,⟨q75,[],0,0,0,0⟩⟩,⟨.exit 1,q99⟩] (dS n) n
def c170 (n:Nat):PF Tryz.prog 170 [.s,.i .i32] (.i .i64):=aQ Tryz.func170 Tryz.call170 (LE n) [XK n,WB n,noL 3 (sb (acM [] [] Tryz.f170) 3)] [] [] (ei n)
def c160 (n:Nat):PF Tryz.prog 160 [.s,.i .i32] (.b):=aQ Tryz.func160 Tryz.call160 [(c170 n).e] [] [] [] (dQ n)
def c262 (n:Nat):FF Tryz.prog 262 [.i .i32,.p 0 0] [.cells [.s]] 1 1 [⟨.b,[],[],false⟩]:=funC Tryz.func262 Tryz.call262 [(c160 n).e] [] [] [] [0] (kn n)
def XH (n:Nat):List (FE Tryz.prog):=[(c262 n).e]
def W7 (n:Nat):LP Tryz.prog Tryz.f284.ntmps:=dB (XH n) [] 0 (sb (acM [] [] Tryz.f284) 0) false ⟨[(1,.fn 262 [.p 0 0]),(2,.b),(10,.p 1 0)],[(0,.cells [.s]),(1,.iter)],2,1,1,1⟩ [] [⟨.ret,⟨[(6,.i .i64)],[],2,1,1,1⟩⟩,⟨.exit 0,⟨[],[],2,1,1,1⟩⟩] (cT n) n
def c284 (n:Nat):FF Tryz.prog 284 [.s,.fn 262 [.p 0 0],.b] [.cells [.s]] 1 1 [⟨.i .i64,[],[],false⟩]:=funC Tryz.func284 Tryz.call284 (XH n) [W7 n] [] [] [0] (lM n)
def c261 (n:Nat):FF Tryz.prog 261 [.s,.fn 262 [.p 0 0]] [.cells [.s]] 1 1 [⟨.i .i64,[],[],false⟩]:=funC Tryz.func261 Tryz.call261 [(c284 n).e] [] [] [] [0] (lI n)
def c231 (n:Nat):PF Tryz.prog 231 [.s,.s] (.b):=aQ Tryz.func231 Tryz.call231 [(c261 n).e] [] [] [] (gB n)
def WP (n:Nat):LP Tryz.prog Tryz.f101.ntmps:=dB [] [] 0 (sb (acM [] [] Tryz.f101) 0) false ⟨[(0,.s),(1,.i .u8)],[],0,0,0,0⟩ [] [⟨.exit 0,⟨[(0,.s)],[],0,0,0,0⟩⟩] (dE n) n
def c101 (n:Nat):PF Tryz.prog 101 [.s,.i .u8] (.s):=aQ Tryz.func101 Tryz.call101 [] [WP n] [] [] (gm n)
def Vj (n:Nat):LP Tryz.prog Tryz.f263.ntmps:=dB [] [] 0 (sb (acM [] [] Tryz.f263) 0) false ⟨[(0,.s),(1,.i .u8)],[],0,0,0,0⟩ [] [⟨.exit 0,⟨[(0,.s)],[],0,0,0,0⟩⟩] (ft n) n
def c263 (n:Nat):PF Tryz.prog 263 [.s,.i .u8] (.s):=aQ Tryz.func263 Tryz.call263 [] [Vj n] [] [] (gR n)
def c232 (n:Nat):PF Tryz.prog 232 [.s,.sk [48]] (.s):=aQ Tryz.func232 Tryz.call232 [(c101 n).e,(c263 n).e] [] [] [] (oq n)
def c211 (n:Nat):PF Tryz.prog 211 [.s,.sk [88]] (.i .i64):=aQ Tryz.func211 Tryz.call211 [(c219 n).e] [noL 0 (sb (acM [] [] Tryz.f211) 0)] [] [] (jo n)
def c161 (n:Nat):PF Tryz.prog 161 [.s,.sk [88]] (.i .i64):=aQ Tryz.func161 Tryz.call161 [(c211 n).e] [] [] [] (mW n)
def c106 (n:Nat):PF Tryz.prog 106 [.s,.sk [88]] (.b):=aQ Tryz.func106 Tryz.call106 [(c161 n).e] [] [] [] (iO n)
def c196 (n:Nat):PF Tryz.prog 196 q109 (.b):=aQ Tryz.func196 Tryz.call196 [(c106 n).e] [] [] [] (du n)
noncomputable def NN (_n:Nat):Ent:=KJ 267
theorem Jj (n:Nat):ge Tryz.prog (NN n):=NQ Tryz.call267 λs h v hv w=>(Tryz.strconv_ParseInt_10_at64_ok s h v hv w).mono λe w' ⟨h1,h2⟩=>⟨h1,h2.elim (λh=>h▸RowKit.Below.refl _ _) (λ⟨t,h⟩=>h▸qD _ _ _)⟩
def c267 (n:Nat):FE Tryz.prog:=libF (Jj n)
def Xw (n:Nat):LP Tryz.prog Tryz.f268.ntmps:=dB [] [] 0 (sb (acM [] [] Tryz.f268) 0) false ⟨[(4,.i .i64),(9,.i .i64),(10,.i .i64)],[],0,0,0,0⟩ [] [⟨.exit 0,⟨q75,[],0,0,0,0⟩⟩] (kV n) n
def c268 (n:Nat):PF Tryz.prog 268 [.i .i64] (.tp [.i .i64,.i .i64]):=aQ Tryz.func268 Tryz.call268 [] [Xw n] [] [] (oY n)
def c290 (n:Nat):PF Tryz.prog 290 [.i .i64] (.i .u64):=aQ Tryz.func290 Tryz.call290 [] [] [] [] (ux n)
def c289 (n:Nat):PF Tryz.prog 289 [.i .u64,.i .u64] (.tp [.i .u64,.i .u64]):=aQ Tryz.func289 Tryz.call289 [] [] [] [] (kL n)
def c291 (n:Nat):PF Tryz.prog 291 [.i .u64,.b] (.tp [.i .i64,.i .i64]):=aQ Tryz.func291 Tryz.call291 [] [] [] [] (tR n)
def c269 (n:Nat):PF Tryz.prog 269 [.i .i64,.i .i64] (.tp [.i .i64,.i .i64]):=aQ Tryz.func269 Tryz.call269 [(c290 n).e,(c289 n).e,(c291 n).e] [] [] [] (wv n)
def c235 (n:Nat):PF Tryz.prog 235 q109 (.tp [.i .i64,.i .i64]):=aQ Tryz.func235 Tryz.call235 [(c267 n),(c268 n).e,(c269 n).e] [] [] [] (eD n)
def c233 (n:Nat):PF Tryz.prog 233 q109 (.b):=aQ Tryz.func233 Tryz.call233 [(c231 n).e,(c235 n).e] [] [] [] (ba n)
def c189 (n:Nat):PF Tryz.prog 189 q109 (.i .i64):=aQ Tryz.func189 Tryz.call189 [(c231 n).e,(c232 n).e,(c196 n).e,(c233 n).e] [] [] [] (jv n)
def c197 (n:Nat):PF Tryz.prog 197 q109 (.tp [.i .i64,.i .i64]):=aQ Tryz.func197 Tryz.call197 [(c189 n).e,(c196 n).e,(c235 n).e] [] [] [] (eM n)
noncomputable def zK (l:List V):Option (Int):=match l with
 | [.i .i64 a0]=>some (a0)
 | _=>none
noncomputable def NJ (n:Nat):Ent:=DY 236 zK (λa=>fC n a) (λr=>.tp [.i .i64 r.1,.i .i64 r.2.1,.i .i64 r.2.2])
theorem Je (n:Nat):ge Tryz.prog (NJ n):=us (arg:=λa=>[.i .i64 a]) Tryz.call236 (λl a h=>by
 unfold zK at h
 split at h
 ·cases h;rfl
 ·cases h) (λa=>rfl) (λa r h=>tL n (λx r h=>pure_seasons_Check n x r h) a r h)
def c236 (n:Nat):FE Tryz.prog:=libF (Je n)
def c275 (n:Nat):PF Tryz.prog 275 [.i .i64] (.i .i64):=aQ Tryz.func275 Tryz.call275 [] [] [] [] (jt n)
def c270 (n:Nat):PF Tryz.prog 270 [.i .i64,.i .i64] (.i .i64):=aQ Tryz.func270 Tryz.call270 [(c275 n).e] [] [] [] (kE n)
def c294 (n:Nat):PF Tryz.prog 294 [.i .i64,.i .i64] (.tp [.i .i64,.i .i64]):=aQ Tryz.func294 Tryz.call294 [] [] [] [] (I5 n)
def c273 (n:Nat):PF Tryz.prog 273 [.i .i64,.i .i64] (.tp [.i .i64,.i .i64]):=aQ Tryz.func273 Tryz.call273 [(c294 n).e] [] [] [] (l7 n)
theorem pure_ints_Div (n:Nat):∀a r,l7 n a.1 a.2=some r->nZ Tryz.prog 273 (argP [.i .i64,.i .i64] a) (encP (.tp [.i .i64,.i .i64]) r):=λa r h=>(c273 n).ok a r h
noncomputable def zU (l:List V):Option (Int):=match l with
 | [.i .i64 a0]=>some (a0)
 | _=>none
noncomputable def K0 (n:Nat):Ent:=DY 300 zU (λa=>fB n a) (λr=>.i .i64 r)
theorem JK (n:Nat):ge Tryz.prog (K0 n):=us (arg:=λa=>[.i .i64 a]) Tryz.call300 (λl a h=>by
 unfold zU at h
 split at h
 ·cases h;rfl
 ·cases h) (λa=>rfl) (λa r h=>vj n (λx y r h=>pure_ints_Div n (x,y) r h) a r h)
def c300 (n:Nat):FE Tryz.prog:=libF (JK n)
def c281 (n:Nat):PF Tryz.prog 281 [.i .i64] (.i .i64):=aQ Tryz.func281 Tryz.call281 [(c300 n)] [] [] [] (lO n)
def c253 (n:Nat):PF Tryz.prog 253 [.i .i64] (.tp [.i .i64,.i .i64]):=aQ Tryz.func253 Tryz.call253 [(c275 n).e,(c281 n).e] [] [] [] (lK n)
def c292 (n:Nat):PF Tryz.prog 292 [.i .i64] (.tp [.b,.i .i64]):=aQ Tryz.func292 Tryz.call292 [(c275 n).e,(c300 n)] [] [] [] (kJ n)
theorem pure_years_Leap (n:Nat):∀a r,kJ n a=some r->nZ Tryz.prog 292 (argP [.i .i64] a) (encP (.tp [.b,.i .i64]) r):=λa r h=>(c292 n).ok a r h
noncomputable def zV (l:List V):Option (Int×Int):=match l with
 | [.i .i64 a0,.i .i64 a1]=>some (a0,a1)
 | _=>none
noncomputable def MQ (n:Nat):Ent:=DY 271 zV (λa=>eJ n a.1 a.2) (λr=>.i .i64 r)
theorem JS (n:Nat):ge Tryz.prog (MQ n):=us (arg:=λa=>[.i .i64 a.1,.i .i64 a.2]) Tryz.call271 (λl a h=>by
 unfold zV at h
 split at h
 ·cases h;rfl
 ·cases h) (λa=>rfl) (λa r h=>uc n (λx r h=>pure_years_Leap n x r h) a.1 a.2 r h)
def c271 (n:Nat):FE Tryz.prog:=libF (JS n)
def Xt (n:Nat):List (FE Tryz.prog):=[(c270 n).e,(c253 n).e,(c271 n)]
def VL (n:Nat):LP Tryz.prog Tryz.f237.ntmps:=dB (Xt n) [] 0 (sb (acM [] [] Tryz.f237) 0) false ⟨[(0,.i .i64),(7,.i .i64),(22,.i .i64),(23,.i .i64)],[],0,0,0,0⟩ [] [⟨.exit 0,⟨[(7,.i .i64)],[],0,0,0,0⟩⟩] (bL n) n
def c237 (n:Nat):PF Tryz.prog 237 [.i .i64,.i .i64] (.tp [.i .i64,.i .i64]):=aQ Tryz.func237 Tryz.call237 (Xt n) [VL n] [] [] (fD n)
noncomputable def Aj (l:List V):Option (Int×Int):=match l with
 | [.i .i64 a0,.i .i64 a1]=>some (a0,a1)
 | _=>none
noncomputable def NS (n:Nat):Ent:=DY 272 Aj (λa=>rZ n a.1 a.2) (λr=>.tp [.i .i64 r.1,.i .i64 r.2])
theorem Jk (n:Nat):ge Tryz.prog (NS n):=us (arg:=λa=>[.i .i64 a.1,.i .i64 a.2]) Tryz.call272 (λl a h=>by
 unfold Aj at h
 split at h
 ·cases h;rfl
 ·cases h) (λa=>rfl) (λa r h=>Cm n a.1 a.2 r h)
def c272 (n:Nat):FE Tryz.prog:=libF (Jk n)
def c274 (n:Nat):PF Tryz.prog 274 [.i .i64,.i .i64] (.tp [.i .i64,.i .i64]):=aQ Tryz.func274 Tryz.call274 [] [] [] [] (wc n)
def c238 (n:Nat):PF Tryz.prog 238 [.i .i64,.i .i64,.i .i64] (.tp [.i .i64,.i .i64,.i .i64]):=aQ Tryz.func238 Tryz.call238 [(c270 n).e,(c272 n),(c273 n).e,(c274 n).e,(c275 n).e] [] [] [] (pg n)
def c239 (n:Nat):PF Tryz.prog 239 [.i .i64,.i .i64] (.tp [.i .i64,.i .i64]):=aQ Tryz.func239 Tryz.call239 [(c237 n).e,(c271 n)] [] [] [] (ia n)
def c198 (n:Nat):PF Tryz.prog 198 [.i .i64,.i .i64] (.tp [.ag q60,.i .i64]):=aQ Tryz.func198 Tryz.call198 [(c236 n),(c237 n).e,(c238 n).e,(c239 n).e] [] [] [] (iL n)
def c151 (n:Nat):PF Tryz.prog 151 q76 (.b):=aQ Tryz.func151 Tryz.call151 [(c189 n).e,(c58 n).e,(c196 n).e,(c197 n).e,(c198 n).e] [] [] [] (fO n)
def Vm (n:Nat):LP Tryz.prog Tryz.f152.ntmps:=dB [] [] 0 (sb (acM [] [] Tryz.f152) 0) false q108 [] [⟨.ret,⟨[(4,.b)],[],0,0,0,0⟩⟩,⟨.exit 0,q99⟩] (dw n) n
def c152 (n:Nat):PF Tryz.prog 152 q30 (.b):=aQ Tryz.func152 Tryz.call152 [] [Vm n] [] [] (dq n)
def V4 (n:Nat):LP Tryz.prog Tryz.f135.ntmps:=dB [] [] 0 (sb (acM [] [] Tryz.f135) 0) false ⟨[(3,.i .i64),(10,.ag [.s,.s]),(11,.i .i64)],[],1,0,0,0⟩ [] [⟨.exit 0,⟨[(3,.i .i64)],[],1,0,0,0⟩⟩] (ch n) n
def c135 (n:Nat):PF Tryz.prog 135 q76 (.i .i64):=aQ Tryz.func135 Tryz.call135 [] [V4 n] [] [] (bQ n)
def c96 (n:Nat):PF Tryz.prog 96 q76 (.i .i64):=aQ Tryz.func96 Tryz.call96 [(c58 n).e,(c151 n).e,(c152 n).e,(c135 n).e,(c153 n).e] [] [] [] (jz n)
def c240 (n:Nat):PF Tryz.prog 240 q30 (.b):=aQ Tryz.func240 Tryz.call240 [] [] [] [] (ln n)
def Wz (n:Nat):List (FE Tryz.prog):=[(c240 n).e]
def V9 (n:Nat):LP Tryz.prog Tryz.f199.ntmps:=dB (Wz n) [] 0 (sb (acM [] [] Tryz.f199) 0) false ⟨[(0,.s),(5,.ws 0),(7,.i .i64),(8,.i .i64)],q71,1,0,0,0⟩ [.nilT 5 0 [.i .i64]] [⟨.exit 0,⟨[(5,.ws 0)],q71,1,0,0,0⟩⟩] (f8 n) n
def c199 (n:Nat):FF Tryz.prog 199 q30 [] 0 0 [⟨.ws 0,q71,[0],false⟩]:=funC Tryz.func199 Tryz.call199 (Wz n) [V9 n] [] [] [] (fp n)
def c154 (n:Nat):FF Tryz.prog 154 q76 [] 0 0 [⟨.ag q34,[(0,.rows [.i .i64]),(1,.rows [.i .i64])],[0,1],false⟩]:=funC Tryz.func154 Tryz.call154 [(c58 n).e,(c199 n).e] [] [] [] [] (pU n)
def c200 (n:Nat):FF Tryz.prog 200 [.ws 0] q81 1 1 [⟨.ws 1,[(1,.rows [.i .i64])],[1],false⟩]:=funC Tryz.func200 Tryz.call200 [] [] [] [] [0] (jR n)
def Xm (n:Nat):LP Tryz.prog Tryz.f201.ntmps:=dB [] [] 0 (sb (acM [] [] Tryz.f201) 0) false ⟨[(0,.ws 0),(2,.i .i64),(3,.i .i64)],q71,1,1,0,1⟩ [] [⟨.exit 0,⟨[],q71,1,1,0,1⟩⟩] (ka n) n
def c201 (n:Nat):FF Tryz.prog 201 [.ws 0] q81 0 1 [⟨.tp [],q71,[],false⟩]:=funC Tryz.func201 Tryz.call201 [] [Xm n] [] [] [0] (jc n)
def WU (n:Nat):LP Tryz.prog Tryz.f295.ntmps:=dB [] [] 0 (sb (acM [] [] Tryz.f295) 0) false ⟨[(0,.s),(9,.p 0 0)],[(0,.iter)],1,0,0,0⟩ [] [⟨.ret,q87⟩,⟨.exit 0,⟨[(0,.s)],[],1,0,0,0⟩⟩] (iV n) n
def c295 (n:Nat):PF Tryz.prog 295 [.s] (.i .i64):=aQ Tryz.func295 Tryz.call295 [] [WU n] [] [] (ky n)
def Vs (n:Nat):LP Tryz.prog Tryz.f306.ntmps:=dB [] [] 0 (sb (acM [] [] Tryz.f306) 0) false ⟨[(1,.i .u8),(5,.i .i64),(9,.ws 0),(10,.i .i64),(11,.i .i64)],[(0,.rows [.i .u8])],1,0,0,0⟩ [] [⟨.exit 0,⟨[(5,.i .i64)],[],1,0,0,0⟩⟩] (gW n) n
def c306 (n:Nat):PF Tryz.prog 306 [.s,.i .u8] (.i .i64):=aQ Tryz.func306 Tryz.call306 [] [Vs n] [] [] (mz n)
def c296 (n:Nat):PF Tryz.prog 296 [.s] (.tp [.i .i64,.i .i64]):=aQ Tryz.func296 Tryz.call296 [(c295 n).e,(c306 n).e] [] [] [] (qo n)
def c307 (n:Nat):PF Tryz.prog 307 [.i .i64] (.i .i64):=aQ Tryz.func307 Tryz.call307 [(c268 n).e] [] [] [] (pV n)
def c297 (n:Nat):PF Tryz.prog 297 q30 (.b):=aQ Tryz.func297 Tryz.call297 [(c307 n).e] [] [] [] (mu n)
def XN (n:Nat):LP Tryz.prog Tryz.f308.ntmps:=dB [] [] 0 (sb (acM [] [] Tryz.f308) 0) false ⟨[(1,.i .i64),(4,.p 0 0),(5,.i .i64)],[(0,.ints .u8 18)],1,0,0,0⟩ [] [⟨.exit 0,⟨[(4,.p 0 0)],[(0,.ints .u8 18)],1,0,0,0⟩⟩] (iW n) n
def c308 (n:Nat):PF Tryz.prog 308 q30 (.ai .u8 18):=aQ Tryz.func308 Tryz.call308 [] [XN n] [] [] (lH n)
def c309 (n:Nat):PF Tryz.prog 309 [.s,.ai .u8 18] (.i .i64):=aQ Tryz.func309 Tryz.call309 [(c306 n).e] [] [] [] (gA n)
def QU (n:Nat):List (FE Tryz.prog):=[(c308 n).e,(c309 n).e]
def W1 (n:Nat):LP Tryz.prog Tryz.f298.ntmps:=dB (QU n) [] 0 (sb (acM [] [] Tryz.f298) 0) false q66 [] [⟨.exit 0,q66⟩] (fP n) n
def VY (n:Nat):LP Tryz.prog Tryz.f298.ntmps:=dB (QU n) [] 1 (sb (acM [] [] Tryz.f298) 1) false ⟨[(0,.s),(2,.b),(8,.i .u8),(9,.i .u8),(10,.p 0 0),(11,.p 1 0),(12,.i .i64)],[(0,.ints .u8 18),(1,.ints .u8 18)],74,0,0,0⟩ [] [⟨.ret,⟨[(6,.i .i64),(7,.i .i64)],[],74,0,0,0⟩⟩,⟨.exit 2,⟨[(0,.s),(2,.b),(8,.i .u8),(11,.p 1 0),(12,.i .i64)],[(1,.ints .u8 18)],74,0,0,0⟩⟩] (cE n) n
def WT (n:Nat):LP Tryz.prog Tryz.f298.ntmps:=dB (QU n) [] 2 (sb (acM [] [] Tryz.f298) 2) false ⟨[(0,.s),(8,.i .u8),(11,.p 1 0),(12,.i .i64)],[(1,.ints .u8 18)],74,0,0,0⟩ [] [⟨.exit 5,⟨[(0,.s),(11,.p 1 0)],[(1,.ints .u8 18)],74,0,0,0⟩⟩] (bz n) n
def c298 (n:Nat):PF Tryz.prog 298 [.s,.i .i64,.b] (.tp [.i .i64,.i .i64]):=aQ Tryz.func298 Tryz.call298 (QU n) [W1 n,VY n,WT n] [] [] (dG n)
def c276 (n:Nat):PF Tryz.prog 276 q30 (.tp [.i .i64,.i .i64]):=aQ Tryz.func276 Tryz.call276 [(c295 n).e,(c296 n).e,(c297 n).e,(c298 n).e] [] [] [] (sw n)
def c299 (n:Nat):PF Tryz.prog 299 [.s] (.tp [.i .i64,.i .i64]):=aQ Tryz.func299 Tryz.call299 [(c295 n).e,(c306 n).e] [] [] [] (l9 n)
def c277 (n:Nat):PF Tryz.prog 277 q30 (.tp [.i .i64,.i .i64]):=aQ Tryz.func277 Tryz.call277 [(c295 n).e,(c297 n).e,(c299 n).e,(c298 n).e] [] [] [] (sF n)
def c241 (n:Nat):PF Tryz.prog 241 [.s,.i .i64,.b,.i .i64] (.tp [.i .i64,.b]):=aQ Tryz.func241 Tryz.call241 [(c276 n).e,(c277 n).e] [] [] [] (fK n)
def c203 (n:Nat):FF Tryz.prog 203 [.ag q34,.i .i64,.b] q90 2 2 [⟨.tp [.i .i64,.b],[],[],false⟩]:=funC Tryz.func203 Tryz.call203 [(c196 n).e,(c197 n).e,(c241 n).e] [] [] [] [0,1] (cA n)
def c202 (n:Nat):FF Tryz.prog 202 [.i .i64,.i .i64,.p 0 0] [.cells [.b]] 1 1 [⟨.b,[],[],false⟩]:=funC Tryz.func202 Tryz.call202 [] [] [] [] [0] (cV n)
def c242 (n:Nat):PF Tryz.prog 242 [.i .i64,.i .i64] (.tp [.i .i64,.i .i64]):=aQ Tryz.func242 Tryz.call242 [(c270 n).e,(c271 n)] [] [] [] (pQ n)
def c204 (n:Nat):FF Tryz.prog 204 [.ag q34,.i .i64,.i .i64] q90 2 2 [⟨.i .i64,[],[],false⟩]:=funC Tryz.func204 Tryz.call204 [(c242 n).e] [] [] [] [0,1] (fa n)
def sG (n:Nat):List (FE Tryz.prog):=[(c200 n).e,(c201 n).e,(c203 n).e,(c202 n).e,(c204 n).e]
def Wi (n:Nat):LP Tryz.prog Tryz.f155.ntmps:=ga (sG n) [] 1003 (sb (acM [] [3,17,20,23,30] Tryz.f155) 1003) false ⟨[(3,.p 2 0),(4,.p 3 0),(5,.p 4 0),(6,.p 5 0),(8,.ik .i64 1),(9,.ws 0),(10,.ws 1),(25,.b)],q64,62,2,2,2⟩ [⟨.nrm,⟨[(3,.p 2 0),(4,.p 3 0),(5,.p 4 0),(6,.p 5 0),(8,.ik .i64 (-1)),(9,.ws 62),(10,.ws 63)],[(0,.rows [.i .i64]),(1,.rows [.i .i64]),(2,.cells q34),(3,.cells [.i .i64,.i .i64,.i .i64]),(4,.cells [.b]),(5,.cells [.ik .i64 0,.ik .i64 0,.ik .i64 0]),(62,.rows [.i .i64]),(63,.rows [.i .i64])],64,2,2,2⟩⟩,⟨.nrm,⟨[(3,.p 2 0),(4,.p 3 0),(5,.p 4 0),(6,.p 5 0),(8,.ik .i64 1),(9,.ws 0),(10,.ws 1)],q64,62,2,2,2⟩⟩] (jx n)
def OB (n:Nat):LP Tryz.prog Tryz.f155.ntmps:=ga (sG n) [] 1020 (sb (sb (sb (sb (acM [] [3,17,20,23,30] Tryz.f155) 0).body 1).body 1017) 1020) false ⟨[(3,.p 2 0),(4,.p 3 0),(5,.p 4 0),(6,.p 5 0),(8,.i .i64),(9,.ws 62),(10,.ws 63),(11,.fn 202 [.p 4 0]),(12,.i .i64),(15,.i .i64),(16,.b),(53,.ws 62),(54,.i .i64),(55,.i .i64)],q15,64,2,2,2⟩ [⟨.nrm,⟨[(3,.p 2 0),(4,.p 3 0),(5,.p 4 0),(6,.p 5 0),(8,.i .i64),(9,.ws 62),(10,.ws 63),(11,.fn 202 [.p 4 0]),(12,.i .i64),(15,.i .i64),(16,.b),(53,.ws 62),(54,.i .i64),(55,.i .i64),(76,.b)],q15,64,2,2,2⟩⟩] (lD n)
def H9 (n:Nat):LP Tryz.prog Tryz.f155.ntmps:=ga (sG n) [] 1020 (sb (sb (sb (sb (acM [] [3,17,20,23,30] Tryz.f155) 0).body 1).body 1017) 1020) false ⟨[(3,.p 2 0),(4,.p 3 0),(5,.p 4 0),(6,.p 5 0),(8,.i .i64),(9,.ws 0),(10,.ws 1),(11,.fn 202 [.p 4 0]),(12,.i .i64),(15,.i .i64),(16,.b),(53,.ws 0),(54,.i .i64),(55,.i .i64)],q18,62,2,2,2⟩ [⟨.nrm,⟨[(3,.p 2 0),(4,.p 3 0),(5,.p 4 0),(6,.p 5 0),(8,.i .i64),(9,.ws 0),(10,.ws 1),(11,.fn 202 [.p 4 0]),(12,.i .i64),(15,.i .i64),(16,.b),(53,.ws 0),(54,.i .i64),(55,.i .i64),(76,.b)],q18,62,2,2,2⟩⟩] (fk n)
def KY (n:Nat):LP Tryz.prog Tryz.f155.ntmps:=ga (sG n) [] 1023 (sb (sb (sb (sb (acM [] [3,17,20,23,30] Tryz.f155) 0).body 1).body 1017) 1023) false q57 [⟨.nrm,q57⟩] (lA n)
def H5 (n:Nat):LP Tryz.prog Tryz.f155.ntmps:=ga (sG n) [] 1023 (sb (sb (sb (sb (acM [] [3,17,20,23,30] Tryz.f155) 0).body 1).body 1017) 1023) false q58 [⟨.nrm,q58⟩] (fe n)
def NC (n:Nat):LP Tryz.prog Tryz.f155.ntmps:=ga (sG n) [] 1030 (sb (sb (sb (sb (sb (acM [] [3,17,20,23,30] Tryz.f155) 0).body 1).body 1017) 2).body 1030) false ⟨[(3,.p 2 0),(4,.p 3 0),(5,.p 4 0),(6,.p 5 0),(8,.i .i64),(9,.ws 62),(10,.ws 63),(11,.fn 202 [.p 4 0]),(12,.i .i64),(15,.i .i64),(16,.b),(17,.i .i64),(19,.i .i64),(53,.ws 62),(54,.i .i64),(55,.i .i64),(94,.ws 63),(95,.i .i64),(96,.i .i64)],q15,64,2,2,2⟩ [⟨.nrm,⟨[(3,.p 2 0),(4,.p 3 0),(5,.p 4 0),(6,.p 5 0),(8,.i .i64),(9,.ws 62),(10,.ws 63),(11,.fn 202 [.p 4 0]),(12,.i .i64),(15,.i .i64),(16,.b),(17,.i .i64),(19,.i .i64),(53,.ws 62),(54,.i .i64),(55,.i .i64),(94,.ws 63),(95,.i .i64),(96,.i .i64),(119,.b)],q15,64,2,2,2⟩⟩] (lB n)
def HH (n:Nat):LP Tryz.prog Tryz.f155.ntmps:=ga (sG n) [] 1030 (sb (sb (sb (sb (sb (acM [] [3,17,20,23,30] Tryz.f155) 0).body 1).body 1017) 2).body 1030) false ⟨[(3,.p 2 0),(4,.p 3 0),(5,.p 4 0),(6,.p 5 0),(8,.i .i64),(9,.ws 0),(10,.ws 1),(11,.fn 202 [.p 4 0]),(12,.i .i64),(15,.i .i64),(16,.b),(17,.i .i64),(19,.i .i64),(53,.ws 0),(54,.i .i64),(55,.i .i64),(94,.ws 1),(95,.i .i64),(96,.i .i64)],q18,62,2,2,2⟩ [⟨.nrm,⟨[(3,.p 2 0),(4,.p 3 0),(5,.p 4 0),(6,.p 5 0),(8,.i .i64),(9,.ws 0),(10,.ws 1),(11,.fn 202 [.p 4 0]),(12,.i .i64),(15,.i .i64),(16,.b),(17,.i .i64),(19,.i .i64),(53,.ws 0),(54,.i .i64),(55,.i .i64),(94,.ws 1),(95,.i .i64),(96,.i .i64),(119,.b)],q18,62,2,2,2⟩⟩] (iJ n)
def R2 (n:Nat):LP Tryz.prog Tryz.f155.ntmps:=dB (sG n) [altL (NC n) (HH n) rfl] 2 (sb (sb (sb (sb (acM [] [3,17,20,23,30] Tryz.f155) 0).body 1).body 1017) 2) false ⟨[(3,.p 2 0),(4,.p 3 0),(5,.p 4 0),(6,.p 5 0),(8,.i .i64),(9,.ws 62),(10,.ws 63),(11,.fn 202 [.p 4 0]),(12,.i .i64),(15,.i .i64),(16,.b),(17,.i .i64),(53,.ws 62),(54,.i .i64),(55,.i .i64),(94,.ws 63),(95,.i .i64),(96,.i .i64)],q15,64,2,2,2⟩ [] [⟨.ret,q101⟩,⟨.exit 4,q33⟩] (mq n) n
def Nk (n:Nat):LP Tryz.prog Tryz.f155.ntmps:=dB (sG n) [altL (NC n) (HH n) rfl] 2 (sb (sb (sb (sb (acM [] [3,17,20,23,30] Tryz.f155) 0).body 1).body 1017) 2) false ⟨[(3,.p 2 0),(4,.p 3 0),(5,.p 4 0),(6,.p 5 0),(8,.i .i64),(9,.ws 0),(10,.ws 1),(11,.fn 202 [.p 4 0]),(12,.i .i64),(15,.i .i64),(16,.b),(17,.i .i64),(53,.ws 0),(54,.i .i64),(55,.i .i64),(94,.ws 1),(95,.i .i64),(96,.i .i64)],q18,62,2,2,2⟩ [] [⟨.ret,q102⟩,⟨.exit 4,q35⟩] (bO n) n
def M9 (n:Nat):LP Tryz.prog Tryz.f155.ntmps:=ga (sG n) [altL (OB n) (H9 n) rfl,altL (KY n) (H5 n) rfl,altL (R2 n) (Nk n) rfl] 1017 (sb (sb (sb (acM [] [3,17,20,23,30] Tryz.f155) 0).body 1).body 1017) false q33 [⟨.nrm,q33⟩,⟨.ret,q101⟩] (lz n)
def I0 (n:Nat):LP Tryz.prog Tryz.f155.ntmps:=ga (sG n) [altL (OB n) (H9 n) rfl,altL (KY n) (H5 n) rfl,altL (R2 n) (Nk n) rfl] 1017 (sb (sb (sb (acM [] [3,17,20,23,30] Tryz.f155) 0).body 1).body 1017) false q35 [⟨.nrm,q35⟩,⟨.ret,q102⟩] (ir n)
def Rz (n:Nat):LP Tryz.prog Tryz.f155.ntmps:=dB (sG n) [altL (M9 n) (I0 n) rfl] 1 (sb (sb (acM [] [3,17,20,23,30] Tryz.f155) 0).body 1) false q33 [] [⟨.ret,q101⟩,⟨.exit 2,⟨[(3,.p 2 0),(4,.p 3 0),(5,.p 4 0),(6,.p 5 0),(8,.i .i64),(9,.ws 62),(10,.ws 63),(11,.fn 202 [.p 4 0]),(12,.i .i64)],q15,64,2,2,2⟩⟩] (mA n) n
def MF (n:Nat):LP Tryz.prog Tryz.f155.ntmps:=dB (sG n) [altL (M9 n) (I0 n) rfl] 1 (sb (sb (acM [] [3,17,20,23,30] Tryz.f155) 0).body 1) false q35 [] [⟨.ret,q102⟩,⟨.exit 2,⟨[(3,.p 2 0),(4,.p 3 0),(5,.p 4 0),(6,.p 5 0),(8,.i .i64),(9,.ws 0),(10,.ws 1),(11,.fn 202 [.p 4 0]),(12,.i .i64)],q18,62,2,2,2⟩⟩] (co n) n
def VG (n:Nat):LP Tryz.prog Tryz.f155.ntmps:=dB (sG n) [altL (Rz n) (MF n) rfl] 0 (sb (acM [] [3,17,20,23,30] Tryz.f155) 0) false ⟨[(3,.p 2 0),(4,.p 3 0),(5,.p 4 0),(6,.p 5 0),(8,.i .i64),(9,.ws 62),(10,.ws 63),(11,.fn 202 [.p 4 0]),(12,.i .i64),(13,.b)],q15,64,2,2,2⟩ [] [⟨.ret,q101⟩,⟨.exit 0,⟨[(6,.p 5 0)],q43,64,2,2,2⟩⟩] (md n) n
def TM (n:Nat):LP Tryz.prog Tryz.f155.ntmps:=dB (sG n) [altL (Rz n) (MF n) rfl] 0 (sb (acM [] [3,17,20,23,30] Tryz.f155) 0) false ⟨[(3,.p 2 0),(4,.p 3 0),(5,.p 4 0),(6,.p 5 0),(8,.i .i64),(9,.ws 0),(10,.ws 1),(11,.fn 202 [.p 4 0]),(12,.i .i64),(13,.b)],q18,62,2,2,2⟩ [] [⟨.ret,q102⟩,⟨.exit 0,⟨[(6,.p 5 0)],q43,62,2,2,2⟩⟩] (dh n) n
def c155 (n:Nat):FF Tryz.prog 155 [.ag q34,.ag [.i .i64,.i .i64,.i .i64],.b] q90 2 2 [⟨.tp [.ag [.i .i64,.i .i64,.i .i64],.b],[],[],false⟩]:=funC Tryz.func155 Tryz.call155 (sG n) [Wi n,altL (VG n) (TM n) rfl] [] [3,17,20,23,30] [0,1] (jh n)
def c97 (n:Nat):PF Tryz.prog 97 q76 (.i .i64):=aQ Tryz.func97 Tryz.call97 [(c96 n).e,(c154 n).e,(c155 n).e] [] [] [] (bC n)
def c57 (n:Nat):FF Tryz.prog 57 [.p 0 0] q74 0 1 [⟨.it 126 (.ag [.i .i64,.i .i64]),q47,[],true⟩,⟨.tp [.ag q19,.i .i64],q47,[],false⟩]:=funC Tryz.func57 Tryz.call57 [(c95 n).e,(c97 n).e,(c98 n).e] [] [] [] [0] (gn n)
def c78E (n:Nat):List (FE Tryz.prog):=[(c76 n).e,(c120 n).e,(c123 n).e,(c98 n).e]
def Yy (n:Nat):LP Tryz.prog Tryz.f78.ntmps:=dB (c78E n) [] 0 (sb (acM [] [] Tryz.f78) 0) false ⟨[(0,.p 0 0),(1,.s),(4,.i .i64),(5,.s)],q47,1,1,0,1⟩ [] [⟨.exit 0,⟨[(0,.p 0 0),(4,.i .i64)],q47,1,1,0,1⟩⟩] (dX n) n
def c78 (n:Nat):FF Tryz.prog 78 [.p 0 0,.s] q74 0 1 [⟨.tp [],q47,[],false⟩,⟨.it 126 (.ag [.i .i64,.i .i64]),q47,[],true⟩]:=funC Tryz.func78 Tryz.call78 (c78E n) [Yy n] [] [] [0] (cf n)
def c125 (n:Nat):FF Tryz.prog 125 [.ws 0] q103 1 1 [⟨.rs 21 0 0 .q (some .q),[],[],false⟩]:=funC Tryz.func125 Tryz.call125 [] [] [] [] [0] (bH n)
def c133 (n:Nat):FF Tryz.prog 133 [.ag q25] q103 1 1 [⟨.b,[],[],false⟩]:=funC Tryz.func133 Tryz.call133 [] [] [] [] [0] (oO n)
def c61 (n:Nat):PF Tryz.prog 61 q76 (.b):=aQ Tryz.func61 Tryz.call61 [(c106 n).e] [] [] [] (eX n)
def c179 (n:Nat):PF Tryz.prog 179 q76 (.b):=aQ Tryz.func179 Tryz.call179 [(c61 n).e] [] [] [] (mK n)
def c127 (n:Nat):PF Tryz.prog 127 [.ag q38] (.i .i64):=aQ Tryz.func127 Tryz.call127 [(c97 n).e,(c179 n).e] [] [] [] (ji n)
def c220 (n:Nat):FF Tryz.prog 220 [] [] 0 0 [⟨.mp 0,[(0,.mp .u8 [(0,251),(1,252),(2,256),(3,257)])],[0],false⟩]:=funC Tryz.func220 Tryz.call220 [] [] [] [] [] (jw n)
def c221 (n:Nat):PF Tryz.prog 221 q76 (.i .u8):=aQ Tryz.func221 Tryz.call221 [(c58 n).e] [] [] [] (bm n)
def c251 (n:Nat):FF Tryz.prog 251 [.i .i64,.ws 0] q81 1 1 [⟨.ag q60,[],[],false⟩]:=funC Tryz.func251 Tryz.call251 [(c198 n).e] [] [] [] [0] (gp n)
def c254 (n:Nat):PF Tryz.prog 254 [.i .i64] (.tp [.i .i64,.i .i64]):=aQ Tryz.func254 Tryz.call254 [(c275 n).e,(c281 n).e] [] [] [] (uJ n)
def c282 (n:Nat):PF Tryz.prog 282 [.i .i64] (.ag [.i .i8,.i .i64]):=aQ Tryz.func282 Tryz.call282 [] [] [] [] (GA n)
def c255 (n:Nat):PF Tryz.prog 255 [.i .i64,.i .i64] (.ag q60):=aQ Tryz.func255 Tryz.call255 [(c282 n).e] [] [] [] (rS n)
def c252 (n:Nat):FF Tryz.prog 252 [.i .i64,.ws 0] q81 1 1 [⟨.ag q60,[],[],false⟩]:=funC Tryz.func252 Tryz.call252 [(c253 n).e,(c254 n).e,(c255 n).e] [] [] [] [0] (gC n)
def c256 (n:Nat):FF Tryz.prog 256 [.i .i64,.ws 0] q81 1 1 [⟨.ag q60,[],[],false⟩]:=funC Tryz.func256 Tryz.call256 [(c237 n).e,(c239 n).e,(c255 n).e] [] [] [] [0] (gG n)
def c283 (n:Nat):PF Tryz.prog 283 [.ag [.i .i64,.i .i64,.i .i64]] (.i .i64):=aQ Tryz.func283 Tryz.call283 [(c242 n).e] [] [] [] (qZ n)
def c258 (n:Nat):PF Tryz.prog 258 [.ag [.i .i64,.i .i64,.i .i64]] (.tp [.i .i64,.i .i64]):=aQ Tryz.func258 Tryz.call258 [(c283 n).e,(c237 n).e] [] [] [] (sc n)
def c257 (n:Nat):FF Tryz.prog 257 [.i .i64,.ws 0] q81 1 1 [⟨.ag q60,[],[],false⟩]:=funC Tryz.func257 Tryz.call257 [(c258 n).e,(c255 n).e] [] [] [] [0] (gy n)
def c177 (n:Nat):PF Tryz.prog 177 q76 (.tp [.ag q60,.i .i64]):=aQ Tryz.func177 Tryz.call177 [(c97 n).e,(c179 n).e,(c197 n).e,(c99 n),(c220 n).e,(c221 n).e,(c251 n).e,(c252 n).e,(c256 n).e,(c257 n).e] [] [] [] (gv n)
def c259 (n:Nat):PF Tryz.prog 259 [.i .i8] (.b):=aQ Tryz.func259 Tryz.call259 [] [] [] [] (oN n)
def c223 (n:Nat):PF Tryz.prog 223 [.i .i8,.i .i8] (.i .i64):=aQ Tryz.func223 Tryz.call223 [(c259 n).e] [] [] [] (mQ n)
def c260 (n:Nat):PF Tryz.prog 260 [.i .i64] (.b):=aQ Tryz.func260 Tryz.call260 [] [] [] [] (ls n)
def c224 (n:Nat):PF Tryz.prog 224 [.i .i64,.i .i64] (.i .i64):=aQ Tryz.func224 Tryz.call224 [(c260 n).e] [] [] [] (jG n)
def Vy (n:Nat):LP Tryz.prog Tryz.f222.ntmps:=dB [] [] 0 (sb (acM [] [] Tryz.f222) 0) false ⟨[(3,.i .i64),(6,.ws 0),(7,.i .i64),(8,.i .i64)],q71,1,1,1,1⟩ [] [⟨.ret,⟨[(2,.i .i64)],[],1,1,1,1⟩⟩,⟨.exit 0,⟨[(3,.i .i64)],[],1,1,1,1⟩⟩] (uG n) n
def c222 (n:Nat):FF Tryz.prog 222 [.ws 0] q81 1 1 [⟨.i .i64,[],[],false⟩]:=funC Tryz.func222 Tryz.call222 [] [Vy n] [] [] [0] (o9 n)
def c178 (n:Nat):PF Tryz.prog 178 [.ag [.i .i8,.i .i64],.ag [.i .i8,.i .i64]] (.i .i64):=aQ Tryz.func178 Tryz.call178 [(c223 n).e,(c224 n).e,(c222 n).e] [] [] [] (kD n)
def c126 (n:Nat):PF Tryz.prog 126 [.ag q38,.ag q38] (.i .i64):=aQ Tryz.func126 Tryz.call126 [(c127 n).e,(c177 n).e,(c178 n).e] [] [0] [] (iH n)
def c225 (n:Nat):FF Tryz.prog 225 [.p 0 0] [.cells q24] 1 1 [⟨.b,[],[],false⟩]:=funC Tryz.func225 Tryz.call225 [] [] [] [] [0] (rE n)
def c229 (n:Nat):PF Tryz.prog 229 [.ag q36] (.b):=aQ Tryz.func229 Tryz.call229 [(c61 n).e] [] [] [] (nU n)
def c230 (n:Nat):PF Tryz.prog 230 [.ag q36] (.b):=aQ Tryz.func230 Tryz.call230 [(c97 n).e,(c229 n).e,(c221 n).e] [] [] [] (lS n)
def c227 (n:Nat):PF Tryz.prog 227 [.ag q36,.ag q36] (.b):=aQ Tryz.func227 Tryz.call227 [(c230 n).e,(c221 n).e,(c177 n).e,(c178 n).e] [] [] [] (mX n)
def c226 (n:Nat):FF Tryz.prog 226 [.p 0 0] [.cells q24] 1 1 [⟨.b,[],[],false⟩]:=funC Tryz.func226 Tryz.call226 [(c227 n).e] [] [] [] [0] (qS n)
def c228 (n:Nat):FF Tryz.prog 228 q98 [.cells [.i .u8],.cells q24] 2 2 [⟨.b,[],[],false⟩]:=funC Tryz.func228 Tryz.call228 [(c229 n).e] [] [] [] [0,1] (rO n)
def c180 (n:Nat):FF Tryz.prog 180 [.sl 0 0 3 (some (.k 3))] [.cells [.i .i64,.fn 225 [.p 1 0],.i .i64,.fn 226 [.p 1 0],.i .i64,.fn 228 [.p 2 0,.p 1 0]],.cells q24,.cells [.i .u8]] 3 3 [⟨.i .i64,[],[],false⟩]:=funC Tryz.func180 Tryz.call180 [(c225 n).e,(c226 n).e,(c228 n).e] [] [0] [] [0,1,2] (eI n)
def c181 (n:Nat):PF Tryz.prog 181 [.ag q24,.i .u8] (.i .i64):=aQ Tryz.func181 Tryz.call181 [(c97 n).e,(c180 n).e] [] [] [] (hZ n)
def c182 (n:Nat):FF Tryz.prog 182 q98 [.cells q24,.cells q53,.rows q11] 3 3 [⟨.b,[],[],false⟩]:=funC Tryz.func182 Tryz.call182 [(c181 n).e] [] [] [] [0,1,2] (qN n)
def c184 (n:Nat):PF Tryz.prog 184 [.ag q24] (.b):=aQ Tryz.func184 Tryz.call184 [(c230 n).e] [] [] [] (nR n)
def c183 (n:Nat):FF Tryz.prog 183 [.p 0 0,.p 1 0,.p 2 0] [.cells [.i .u8,.bd,.b,.s,.i .i64,.i .i64,.s,.s,.i .u8,.i .u8,.i .u8,.i .u8,.bd,.b,.s,.i .i64,.i .i64,.s,.s,.i .u8,.i .u8,.i .u8,.i .u8,.bd,.b,.s,.i .i64,.i .i64,.s,.s,.i .u8,.i .u8,.i .u8,.rs 21 3 0 .q (some .q),.b,.b],.cells [.i .i64],.cells q24,.rows q11] 4 4 [⟨.b,[],[],false⟩]:=funC Tryz.func183 Tryz.call183 [(c184 n).e] [] [] [] [0,1,2,3] (qT n)
def c185 (n:Nat):FF Tryz.prog 185 [.p 0 0,.p 1 0,.p 2 0,.p 3 0] [.cells [.i .u8,.bd,.b,.s,.i .i64,.i .i64,.s,.s,.i .u8,.i .u8,.i .u8,.i .u8,.bd,.b,.s,.i .i64,.i .i64,.s,.s,.i .u8,.i .u8,.i .u8,.i .u8,.bd,.b,.s,.i .i64,.i .i64,.s,.s,.i .u8,.i .u8,.i .u8,.rs 21 4 0 .q (some .q),.b,.b],.cells [.i .i64],.cells [.i .i64],.cells q24,.rows q11] 5 5 [⟨.b,[],[],false⟩]:=funC Tryz.func185 Tryz.call185 [(c184 n).e] [] [] [] [0,1,2,3,4] (rk n)
def c186 (n:Nat):FF Tryz.prog 186 q98 [.cells q53,.cells [.i .i64],.rows q11] 3 3 [⟨.b,[],[],false⟩]:=funC Tryz.func186 Tryz.call186 [] [] [] [] [0,1,2] (qR n)
def VW (n:Nat):FF Tryz.prog 180 [.sl 0 0 4 (some (.k 4))] [.cells [.i .i64,.fn 182 [.p 1 0,.p 2 0],.i .i64,.fn 183 [.p 2 0,.p 3 0,.p 1 0],.i .i64,.fn 185 [.p 2 0,.p 3 0,.p 4 0,.p 1 0],.i .i64,.fn 186 [.p 2 0,.p 4 0]],.cells q24,.cells [.i .u8,.bd,.b,.s,.i .i64,.i .i64,.s,.s,.i .u8,.i .u8,.i .u8,.i .u8,.bd,.b,.s,.i .i64,.i .i64,.s,.s,.i .u8,.i .u8,.i .u8,.i .u8,.bd,.b,.s,.i .i64,.i .i64,.s,.s,.i .u8,.i .u8,.i .u8,.rs 21 5 0 .q (some .q),.b,.b],.cells [.i .i64],.cells [.i .i64],.rows q11] 6 6 [⟨.i .i64,[],[],false⟩]:=funC Tryz.func180 Tryz.call180 [(c182 n).e,(c183 n).e,(c185 n).e,(c186 n).e] [] [0] [] [0,1,2,3,4,5] (mM n)
def WI (n:Nat):List (FE Tryz.prog):=[(c181 n).e,(VW n).e]
def WO (n:Nat):LP Tryz.prog Tryz.f134.ntmps:=dB (WI n) [] 0 (sb (acM [] [] Tryz.f134) 0) true ⟨[(1,.p 1 0),(4,.p 2 0),(13,.rs 21 0 0 .q (some .q)),(14,.i .i64),(15,.i .i64)],[(0,.rows q11),(1,.cells q25),(2,.cells [.i .i64])],3,1,1,1⟩ [] [⟨.ret,⟨[(2,.i .i64),(3,.i .i64)],[],1,1,1,1⟩⟩,⟨.exit 0,⟨[],[],1,1,1,1⟩⟩] (km n) n
def c134 (n:Nat):FF Tryz.prog 134 [.ag q25] q103 1 1 [⟨.tp [.i .i64,.i .i64],[],[],false⟩]:=funC Tryz.func134 Tryz.call134 (WI n) [WO n] [] [] [0] (mY n)
def c85 (n:Nat):FF Tryz.prog 85 [.ag q25] q103 1 1 [⟨.tp [.i .i64,.i .i64],[],[],false⟩]:=funC Tryz.func85 Tryz.call85 [(c133 n).e,(c97 n).e,(c126 n).e,(c134 n).e] [] [] [] [0] (io n)
def c74E (n:Nat):List (FE Tryz.prog):=[(c121 n).e,(c122 n).e,(c76 n).e,(c123 n).e,(c98 n).e,(c57 n).e,(c124 n).e,(c78 n).e,(c125 n).e,(c85 n).e]
def Yv (n:Nat):LP Tryz.prog Tryz.f74.ntmps:=ga (c74E n) [] 1003 (sb (acM [] [3,16,17] Tryz.f74) 1003) true ⟨[(0,.p 0 0),(2,.p 1 0),(3,.p 2 0),(15,.b)],[(0,.cells q30),(1,.cells q14),(2,.cells [.ik .u8 3,.bk false,.bk false,.sk [],.ik .i64 0,.ik .i64 0,.sk [],.sk [],.ik .u8 0,.ik .u8 0,.ik .u8 0,.ik .u8 0,.bk false,.bk false,.sk [],.ik .i64 0,.ik .i64 0,.sk [],.sk [],.ik .u8 0,.ik .u8 0,.ik .u8 0,.ik .u8 0,.bk false,.bk false,.sk [],.ik .i64 0,.ik .i64 0,.sk [],.sk [],.ik .u8 0,.ik .u8 0,.ik .u8 0,.ws 4,.bk false,.bk false]),(3,.rows q11),(4,.rows q11)],5,1,0,1⟩ [⟨.nrm,⟨[(0,.p 0 0),(2,.p 1 0),(3,.p 2 0)],[(0,.cells q30),(1,.cells q14),(2,.cells [.i .u8,.bk false,.bk false,.sk [],.ik .i64 0,.ik .i64 0,.sk [],.sk [],.ik .u8 0,.ik .u8 0,.ik .u8 0,.ik .u8 0,.bk false,.bk false,.sk [],.ik .i64 0,.ik .i64 0,.sk [],.sk [],.ik .u8 0,.ik .u8 0,.ik .u8 0,.ik .u8 0,.bk false,.bk false,.sk [],.ik .i64 0,.ik .i64 0,.sk [],.sk [],.ik .u8 0,.ik .u8 0,.ik .u8 0,.ws 4,.bk false,.bk false]),(3,.rows q11),(4,.rows q11)],5,1,0,1⟩⟩] (nk n)
def WS (n:Nat):LP Tryz.prog Tryz.f74.ntmps:=ga (c74E n) [] 1016 (sb (sb (acM [] [3,16,17] Tryz.f74) 0).body 1016) true ⟨q83,q20,7,1,0,1⟩ [⟨.nrm,q78⟩] (lU n)
def XJ (n:Nat):LP Tryz.prog Tryz.f74.ntmps:=ga (c74E n) [] 1017 (sb (sb (acM [] [3,16,17] Tryz.f74) 0).body 1017) true q78 [⟨.pan (.it 126 (.ag [.i .i64,.i .i64])),⟨[],q47,1,1,0,1⟩⟩,⟨.nrm,⟨q83,[(0,.cells q30),(1,.cells q26),(2,.cells q42),(3,.rows [.i .i64]),(4,.cells q24),(5,.rows q11),(6,.rows q11)],7,1,0,1⟩⟩] (lX n)
def Yc (n:Nat):LP Tryz.prog Tryz.f74.ntmps:=dB (c74E n) [WS n,XJ n] 0 (sb (acM [] [3,16,17] Tryz.f74) 0) true ⟨q95,[(0,.cells q30),(1,.cells q13),(2,.cells [.i .u8,.bk false,.bk false,.sk [],.ik .i64 0,.ik .i64 0,.sk [],.sk [],.ik .u8 0,.ik .u8 0,.ik .u8 0,.ik .u8 0,.bk false,.bk false,.sk [],.ik .i64 0,.ik .i64 0,.sk [],.sk [],.ik .u8 0,.ik .u8 0,.ik .u8 0,.ik .u8 0,.bk false,.bk false,.sk [],.ik .i64 0,.ik .i64 0,.sk [],.sk [],.ik .u8 0,.ik .u8 0,.ik .u8 0,.ws 5,.b,.bk false]),(3,.rows [.i .i64]),(4,.rows q11),(5,.rows q11)],6,1,0,1⟩ [.nilT 6 1000 [.i .i64]] [⟨.pan (.it 126 (.ag [.i .i64,.i .i64])),⟨[],q47,1,1,0,1⟩⟩,⟨.exit 0,⟨q95,[(0,.cells q30),(1,.cells q16),(2,.cells q59),(3,.rows [.i .i64]),(4,.rows q11),(5,.rows q11)],6,1,0,1⟩⟩] (fj n) n
def c74 (n:Nat):FF Tryz.prog 74 [.p 0 0] q74 0 1 [⟨.it 126 (.ag [.i .i64,.i .i64]),q47,[],true⟩,⟨.ag [.i .u8,.bd,.b,.s,.i .i64,.i .i64,.s,.s,.i .u8,.i .u8,.i .u8,.i .u8,.bd,.b,.s,.i .i64,.i .i64,.s,.s,.i .u8,.i .u8,.i .u8,.i .u8,.bd,.b,.s,.i .i64,.i .i64,.s,.s,.i .u8,.i .u8,.i .u8,.rs 21 1 0 .q (some .q),.b,.b],[(0,.cells q30),(1,.rows q11)],[1],false⟩]:=funC Tryz.func74 Tryz.call74 (c74E n) [Yv n,Yc n] [] [3,16,17] [0] (nr n)
def c75 (n:Nat):FF Tryz.prog 75 [.p 2 0,.i .i64] [.cells q30,.rows q11,.cells q51] 2 3 [⟨.tp [],[(2,.cells q51)],[],false⟩]:=funC Tryz.func75 Tryz.call75 [] [] [] [] [2,0,1] (fS n)
def WG (n:Nat):FF Tryz.prog 75 [.p 2 0,.i .i64] [.cells q30,.rows q11,.cells q55] 2 3 [⟨.tp [],[(2,.cells q55)],[],false⟩]:=funC Tryz.func75 Tryz.call75 [] [] [] [] [2,0,1] (cS n)
def QI (_n:Nat):Ent:=RF 59
theorem Na (n:Nat):ge Tryz.prog (QI n):=K9 Tryz.call59 λs c w h1 h2 h3=>Tryz.strings_TrimRight_laid s c w h1 h2 h3
def c59 (n:Nat):FE Tryz.prog:=libF (Na n)
def WH (n:Nat):PF Tryz.prog 111 [.s,.sk [45]] (.b):=aQ Tryz.func111 Tryz.call111 [] [] [] [] (fc n)
def c105 (n:Nat):PF Tryz.prog 105 [.s,.sk [45]] (.s):=aQ Tryz.func105 Tryz.call105 [(WH n).e] [] [] [] (fY n)
def c60 (n:Nat):PF Tryz.prog 60 [.s,.sk [45]] (.s):=aQ Tryz.func60 Tryz.call60 [(c105 n).e] [] [] [] (je n)
end
end Go.Sh
