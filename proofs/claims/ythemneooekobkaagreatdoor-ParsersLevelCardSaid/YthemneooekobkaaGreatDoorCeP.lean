/- Each function of the program computes its plain function: the certificates.
   Conditions: none. Printed by the bench tool gen.py. -/
import Derived.Test.YthemneooekobkaaGreatDoorAbsPat
import Derived.Test.YthemneooekobkaaGreatDoorHGa
import Derived.Test.YthemneooekobkaaGreatDoorHGb
import Derived.Test.YthemneooekobkaaGreatDoorHGe
set_option linter.unusedVariables false
set_option linter.unusedSimpArgs false
set_option maxRecDepth 100000
set_option maxHeartbeats 4000000
namespace Go.Sh
open Go.Abs Go.Proofs
noncomputable section
abbrev q21:List PV:=[.s,.i .i64]
abbrev q53:List PB:=[.cells q21]
abbrev q34:List (Nat×PB):=[(0,.cells q21)]
abbrev q57:List (Nat×PV):=[(4,.i .i64)]
abbrev q71:List PX:=[⟨.ret,⟨q57,[],1,1,1,1⟩⟩,⟨.exit 0,⟨[],[],1,1,1,1⟩⟩]
abbrev q66:List (Nat×PB):=[(1,.cells q21)]
abbrev q22:List PV:=[.b,.b,.s,.i .i64,.i .i64]
abbrev q75:List PV:=[.p 0 0,.p 1 0]
abbrev q15:List PV:=[.b,.b,.s,.i .i64,.i .i64,.s,.s,.i .u8,.i .u8,.i .u8]
abbrev q72:List PX:=[⟨.ret,⟨q57,[],1,0,0,0⟩⟩,⟨.exit 0,⟨[],[],1,0,0,0⟩⟩]
abbrev q74:List PV:=[.ai .u8 3,.i .i64]
abbrev q62:List PB:=[.cells [.fn 145 [.p 1 0]],.cells [.fn 1000144 [.p 3 0]],.cells q15,.cells q21]
abbrev q58:List (Nat×PB):=[(2,.cells q15),(3,.cells q21)]
abbrev q56:List PV:=[.ag q15]
abbrev q70:List (Nat×PV):=[(0,.s),(7,.s),(8,.i .i64),(9,.i .i64),(12,.i .i64)]
abbrev q61:PSt:=⟨[],[],0,0,0,0⟩
abbrev q80:List PV:=[.ag q22]
abbrev q44:List PV:=[.i .i8,.i .i64,.i .i8,.i .i64]
abbrev q79:PSt:=⟨[(0,.s),(1,.i .i64),(5,.i .i64)],[],0,0,0,0⟩
abbrev q81:List PX:=[⟨.ret,⟨[(4,.b)],[],0,0,0,0⟩⟩,⟨.exit 0,q61⟩]
abbrev q50:List (Nat×PB):=[(0,.rows [.i .i64])]
abbrev q25:List PV:=[.b,.b,.s,.i .i64,.i .i64,.s,.s,.i .u8,.i .u8,.i .u8,.ws 0,.ws 1]
abbrev q59:List PB:=[.rows [.i .i64]]
abbrev q49:PSt:=⟨[(0,.s),(1,.i .i64),(2,.b),(8,.i .u8),(9,.i .u8),(10,.p 0 0),(11,.p 1 0),(12,.i .i64)],[(0,.ints .u8 18),(1,.ints .u8 18)],2,0,0,0⟩
abbrev q68:List PB:=[.rows [.i .i64],.rows [.i .i64]]
abbrev q47:List (Nat×PB):=[(0,.rows [.i .i64]),(1,.rows [.i .i64]),(2,.cells q25),(3,.cells [.i .i64,.i .i64,.i .i64]),(4,.cells [.b]),(5,.cells [.ik .i64 0,.ik .i64 0,.ik .i64 0])]
abbrev q12:List (Nat×PB):=[(0,.rows [.i .i64]),(1,.rows [.i .i64]),(2,.cells q25),(3,.cells [.i .i64,.i .i64,.i .i64]),(4,.cells [.b]),(5,.cells [.i .i64,.i .i64,.i .i64]),(62,.rows [.i .i64]),(63,.rows [.i .i64])]
abbrev q14:List (Nat×PB):=[(0,.rows [.i .i64]),(1,.rows [.i .i64]),(2,.cells q25),(3,.cells [.i .i64,.i .i64,.i .i64]),(4,.cells [.b]),(5,.cells [.i .i64,.i .i64,.i .i64])]
abbrev q42:PSt:=⟨[(3,.p 2 0),(4,.p 3 0),(5,.p 4 0),(6,.p 5 0),(8,.i .i64),(9,.ws 62),(10,.ws 63),(11,.fn 202 [.p 4 0]),(12,.i .i64),(15,.i .i64),(16,.b),(17,.i .i64),(53,.ws 62),(54,.i .i64),(55,.i .i64)],q12,64,2,2,2⟩
abbrev q43:PSt:=⟨[(3,.p 2 0),(4,.p 3 0),(5,.p 4 0),(6,.p 5 0),(8,.i .i64),(9,.ws 0),(10,.ws 1),(11,.fn 202 [.p 4 0]),(12,.i .i64),(15,.i .i64),(16,.b),(17,.i .i64),(53,.ws 0),(54,.i .i64),(55,.i .i64)],q14,62,2,2,2⟩
abbrev q52:List (Nat×PV):=[(6,.p 5 0),(7,.b)]
abbrev q31:List (Nat×PB):=[(5,.cells [.i .i64,.i .i64,.i .i64])]
abbrev q77:PSt:=⟨q52,q31,64,2,2,2⟩
abbrev q24:PSt:=⟨[(3,.p 2 0),(4,.p 3 0),(5,.p 4 0),(6,.p 5 0),(8,.i .i64),(9,.ws 62),(10,.ws 63),(11,.fn 202 [.p 4 0]),(12,.i .i64),(53,.ws 62),(54,.i .i64),(55,.i .i64)],q12,64,2,2,2⟩
abbrev q78:PSt:=⟨q52,q31,62,2,2,2⟩
abbrev q26:PSt:=⟨[(3,.p 2 0),(4,.p 3 0),(5,.p 4 0),(6,.p 5 0),(8,.i .i64),(9,.ws 0),(10,.ws 1),(11,.fn 202 [.p 4 0]),(12,.i .i64),(53,.ws 0),(54,.i .i64),(55,.i .i64)],q14,62,2,2,2⟩
abbrev q11:List Lf:=[.bo,.bo,.s,.i .i64,.i .i64,.s,.s,.i .u8,.i .u8,.i .u8,.bo,.bo,.bo,.s,.i .i64,.i .i64,.s,.s,.i .u8,.i .u8,.i .u8]
abbrev q20:List PV:=[.i .u8,.bd,.b,.s,.i .i64,.i .i64,.s,.s,.i .u8,.i .u8,.i .u8,.i .u8,.bd,.b,.s,.i .i64,.i .i64,.s,.s,.i .u8,.i .u8,.i .u8,.i .u8,.bd,.b,.s,.i .i64,.i .i64,.s,.s,.i .u8,.i .u8,.i .u8,.rs 21 0 0 .q (some .q),.b,.b]
abbrev q51:List PV:=[.i .u8,.b,.b,.s,.i .i64,.i .i64,.s,.s,.i .u8,.i .u8,.i .u8]
abbrev q19:List PV:=[.bd,.b,.s,.i .i64,.i .i64,.s,.s,.i .u8,.i .u8,.i .u8,.b,.bd,.b,.s,.i .i64,.i .i64,.s,.s,.i .u8,.i .u8,.i .u8]
abbrev q27:List PV:=[.bd,.b,.s,.i .i64,.i .i64,.s,.s,.i .u8,.i .u8,.i .u8]
abbrev q39:List PV:=[.i .u8,.bd,.b,.s,.i .i64,.i .i64,.s,.s,.i .u8,.i .u8,.i .u8,.i .u8,.bd,.b,.s,.i .i64,.i .i64,.s,.s,.i .u8,.i .u8,.i .u8,.i .u8,.bd,.b,.s,.i .i64,.i .i64,.s,.s,.i .u8,.i .u8,.i .u8,.rs 21 2 0 .q (some .q),.b,.b]
abbrev q28:List PV:=[.ik .u8 0,.bk false,.bk false,.sk [],.ik .i64 0,.ik .i64 0,.sk [],.sk [],.ik .u8 0,.ik .u8 0,.ik .u8 0,.ik .u8 0,.bk false,.bk false,.sk [],.ik .i64 0,.ik .i64 0,.sk [],.sk [],.ik .u8 0,.ik .u8 0,.ik .u8 0,.ik .u8 0,.bk false,.bk false,.sk [],.ik .i64 0,.ik .i64 0,.sk [],.sk [],.ik .u8 0,.ik .u8 0,.ik .u8 0,.ws 3,.bk false,.bk false]
abbrev q63:List (Nat×PV):=[(0,.p 0 0),(2,.p 1 0),(3,.p 2 0),(5,.s),(6,.ws 3),(7,.p 4 0),(9,.i .i64)]
abbrev q29:List PV:=[.ik .u8 0,.bk false,.bk false,.sk [],.ik .i64 0,.ik .i64 0,.sk [],.sk [],.ik .u8 0,.ik .u8 0,.ik .u8 0,.ik .u8 0,.bk false,.bk false,.sk [],.ik .i64 0,.ik .i64 0,.sk [],.sk [],.ik .u8 0,.ik .u8 0,.ik .u8 0,.ik .u8 0,.bk false,.bk false,.sk [],.ik .i64 0,.ik .i64 0,.sk [],.sk [],.ik .u8 0,.ik .u8 0,.ik .u8 0,.ws 5,.bk false,.bk false]
abbrev q30:List PV:=[.i .u8,.bk false,.bk false,.sk [],.ik .i64 0,.ik .i64 0,.sk [],.sk [],.ik .u8 0,.ik .u8 0,.ik .u8 0,.ik .u8 0,.bk false,.bk false,.sk [],.ik .i64 0,.ik .i64 0,.sk [],.sk [],.ik .u8 0,.ik .u8 0,.ik .u8 0,.ik .u8 0,.bk false,.bk false,.sk [],.ik .i64 0,.ik .i64 0,.sk [],.sk [],.ik .u8 0,.ik .u8 0,.ik .u8 0,.ws 6,.b,.bk false]
abbrev q16:List (Nat×PB):=[(0,.cells q21),(1,.cells q29),(2,.cells q30),(3,.rows [.i .i64]),(4,.cells [.bd,.b,.s,.i .i64,.i .i64,.s,.s,.i .u8,.i .u8,.i .u8,.bk false,.bk false,.bk false,.sk [],.ik .i64 0,.ik .i64 0,.sk [],.sk [],.ik .u8 0,.ik .u8 0,.ik .u8 0]),(5,.rows q11),(6,.rows q11)]
abbrev q55:PSt:=⟨[(0,.p 0 0),(2,.p 1 0),(3,.p 2 0),(5,.s),(6,.ws 3),(7,.p 4 0),(9,.i .i64),(49,.b)],q16,7,1,0,1⟩
abbrev q73:List (Nat×PV):=[(0,.p 0 0),(2,.p 1 0),(3,.p 2 0),(5,.s),(6,.ws 3)]
abbrev q37:List PV:=[.p 0 0,.i .u8,.bd,.b,.s,.i .i64,.i .i64,.s,.s,.i .u8,.i .u8,.i .u8,.i .u8,.bd,.b,.s,.i .i64,.i .i64,.s,.s,.i .u8,.i .u8,.i .u8,.i .u8,.bd,.b,.s,.i .i64,.i .i64,.s,.s,.i .u8,.i .u8,.i .u8,.rs 21 1 0 .q (some .q),.b,.b,.i .i64]
abbrev q40:List PV:=[.p 0 0,.i .u8,.bd,.b,.s,.i .i64,.i .i64,.s,.s,.i .u8,.i .u8,.i .u8,.i .u8,.bd,.b,.s,.i .i64,.i .i64,.s,.s,.i .u8,.i .u8,.i .u8,.i .u8,.bd,.b,.s,.i .i64,.i .i64,.s,.s,.i .u8,.i .u8,.i .u8,.ws 1,.b,.b,.i .i64]
def c120 (n:Nat):FF Tryz.prog 120 [.p 0 0] q53 1 1 [⟨.s,[],[],false⟩]:=funC Tryz.func120 Tryz.call120 [] [] [] [] [0] (bW n)
def c73 (n:Nat):FF Tryz.prog 73 [.p 0 0] q53 1 1 [⟨.tp [.i .u8,.b],[],[],false⟩]:=funC Tryz.func73 Tryz.call73 [(c120 n).e] [] [] [] [0] (aX n)
def c123 (n:Nat):FF Tryz.prog 123 [.p 0 0] q53 1 1 [⟨.i .i64,[],[],false⟩]:=funC Tryz.func123 Tryz.call123 [] [] [] [] [0] (bs n)
def c98 (n:Nat):FF Tryz.prog 98 [.p 0 0,.i .i64,.i .i64] q53 1 1 [⟨.it 126 (.ag [.i .i64,.i .i64]),[],[],true⟩]:=funC Tryz.func98 Tryz.call98 [] [] [] [] [0] (aK n)
def c250 (_n:Nat):FE Tryz.prog:=libF (GZ Tryz.func250 (by kernel_rfl) (by kernel_rfl) (by kernel_rfl) (by kernel_rfl))
def c219 (n:Nat):PF Tryz.prog 219 [.s,.i .u8] (.i .i64):=aL Tryz.func219 Tryz.call219 [(c250 n)] [] [] [] (cw n)
def c176 (n:Nat):PF Tryz.prog 176 [.s,.i .u8] (.i .i64):=aL Tryz.func176 Tryz.call176 [(c219 n).e] [] [] [] (cU n)
def c121 (n:Nat):FF Tryz.prog 121 [.p 0 0,.s] q53 0 1 [⟨.it 126 (.ag [.i .i64,.i .i64]),q34,[],true⟩,⟨.i .u8,q34,[],false⟩]:=funC Tryz.func121 Tryz.call121 [(c73 n).e,(c123 n).e,(c98 n).e,(c176 n).e] [] [] [] [0] (bU n)
def c122 (n:Nat):PF Tryz.prog 122 [.i .u8] (.tp [.s,.s]):=aL Tryz.func122 Tryz.call122 [] [] [] [] (kn n)
def c111 (n:Nat):PF Tryz.prog 111 [.s,.s] (.b):=aL Tryz.func111 Tryz.call111 [] [] [] [] (fA n)
def c65 (n:Nat):PF Tryz.prog 65 [.s,.s] (.b):=aL Tryz.func65 Tryz.call65 [(c111 n).e] [] [] [] (iq n)
def c124 (n:Nat):FF Tryz.prog 124 [.p 0 0,.s] q53 1 1 [⟨.b,[],[],false⟩]:=funC Tryz.func124 Tryz.call124 [(c120 n).e,(c65 n).e] [] [] [] [0] (eJ n)
def c76 (n:Nat):FF Tryz.prog 76 [.p 0 0,.s] q53 0 1 [⟨.b,q34,[],false⟩]:=funC Tryz.func76 Tryz.call76 [(c124 n).e] [] [] [] [0] (aB n)
def c193 (n:Nat):PF Tryz.prog 193 [] (.ag [.s,.s,.s,.s]):=aL Tryz.func193 Tryz.call193 [] [] [] [] (qp n)
def Q8 (n:Nat):LP Tryz.prog Tryz.f107.ntmps:=cY [] [] 0 (sb (acM [] [] Tryz.f107) 0) false ⟨[(0,.sl 0 0 4 (some (.k 4))),(1,.s),(7,.i .i64),(8,.i .i64)],[(0,.cells [.s,.s,.s,.s])],1,1,1,1⟩ [] q71 (gy n) n
def c107 (n:Nat):FF Tryz.prog 107 [.sl 0 0 4 (some (.k 4)),.s] [.cells [.s,.s,.s,.s]] 1 1 [⟨.i .i64,[],[],false⟩]:=funC Tryz.func107 Tryz.call107 [] [Q8 n] [] [] [0] (iC n)
def c143 (n:Nat):PF Tryz.prog 143 [.i .u8] (.tp [.i .u8,.b]):=aL Tryz.func143 Tryz.call143 [(c193 n).e,(c107 n).e] [] [] [] (nj n)
def c142 (n:Nat):FF Tryz.prog 142 [.p 0 0] [.cells [.p 1 0],.cells q21] 1 2 [⟨.it 126 (.ag [.i .i64,.i .i64]),q66,[],true⟩,⟨.i .u8,q66,[],false⟩]:=funC Tryz.func142 Tryz.call142 [(c73 n).e,(c143 n).e,(c121 n).e] [] [] [] [0,1] (cb n)
def Q5 (n:Nat):List (FE Tryz.prog):=[(c123 n).e,(c73 n).e,(c176 n).e,(c98 n).e]
def QY (n:Nat):LP Tryz.prog Tryz.f144.ntmps:=cY (Q5 n) [] 0 (sb (acM [] [] Tryz.f144) 0) false ⟨[(0,.p 0 0),(1,.s),(2,.i .i64),(3,.i .i64),(9,.i .i64),(10,.i .u8),(11,.b)],q34,1,1,0,1⟩ [] [⟨.exit 0,⟨[(0,.p 0 0),(2,.i .i64),(9,.i .i64)],q34,1,1,0,1⟩⟩] (cv n) n
def c144 (n:Nat):FF Tryz.prog 144 [.p 0 0,.s,.i .i64,.i .i64] q53 0 1 [⟨.it 126 (.ag [.i .i64,.i .i64]),q34,[],true⟩,⟨.s,q34,[],false⟩]:=funC Tryz.func144 Tryz.call144 (Q5 n) [QY n] [] [] [0] (bL n)
noncomputable def Lx (_n:Nat):Ent:=NV 99 263
theorem HC (n:Nat):fO Tryz.prog (Lx n):=MY Tryz.call99 (λs n hl h w=>(Tryz.strconv_Atoi s n hl h w).mono λe w' ⟨h1,t,h2⟩=>⟨h1,h2▸nO _ _ _⟩) (λs hl h w hg=>Ln s hl h w hg)
def c99 (n:Nat):FE Tryz.prog:=libF (HC n)
def c194 (n:Nat):FF Tryz.prog 194 [.s,.p 0 0] [.cells [.p 1 0],.cells q21] 1 2 [⟨.i .i64,q66,[],false⟩,⟨.it 126 (.ag [.i .i64,.i .i64]),q66,[],true⟩]:=funC Tryz.func194 Tryz.call194 [(c76 n).e,(c121 n).e,(c144 n).e,(c99 n)] [] [] [] [0,1] (cA n)
def c147 (n:Nat):FF Tryz.prog 147 [.p 0 0] q53 0 1 [⟨.it 126 (.ag [.i .i64,.i .i64]),q34,[],true⟩,⟨.ag q22,q34,[],false⟩]:=funC Tryz.func147 Tryz.call147 [(c76 n).e,(c121 n).e,(c144 n).e,(c194 n).e] [] [] [] [0] (kq n)
def c146 (n:Nat):FF Tryz.prog 146 q75 [.cells [.p 2 0],.cells q15,.cells q21] 1 3 [⟨.it 126 (.ag [.i .i64,.i .i64]),[(1,.cells q15),(2,.cells q21)],[],true⟩,⟨.tp [],[(1,.cells q15),(2,.cells q21)],[],false⟩]:=funC Tryz.func146 Tryz.call146 [(c147 n).e] [] [] [] [0,1,2] (iY n)
def c192 (n:Nat):PF Tryz.prog 192 [.i .u8] (.i .i64):=aL Tryz.func192 Tryz.call192 [] [] [] [] (gg n)
def Rm (n:Nat):List (FE Tryz.prog):=[(c192 n).e]
def R9 (n:Nat):LP Tryz.prog Tryz.f153.ntmps:=cY (Rm n) [] 0 (sb (acM [] [] Tryz.f153) 0) false ⟨[(1,.i .i64),(13,.ai .u8 3),(14,.i .i64)],[],1,0,0,0⟩ [] q72 (fX n) n
def c153 (n:Nat):PF Tryz.prog 153 q74 (.i .i64):=aL Tryz.func153 Tryz.call153 (Rm n) [R9 n] [] [] (df n)
def c195 (n:Nat):FF Tryz.prog 195 [.i .i64,.p 2 0,.p 0 0,.p 1 0] [.ints .u8 3,.ints .u8 3,.cells [.i .u8]] 2 3 [⟨.i .u8,[(2,.cells [.i .u8])],[],false⟩]:=funC Tryz.func195 Tryz.call195 [] [] [] [] [2,0,1] (qc n)
def QI (n:Nat):List (FE Tryz.prog):=[(c153 n).e,(c195 n).e]
def QT (n:Nat):LP Tryz.prog Tryz.f150.ntmps:=cY (QI n) [] 1 (sb (acM [0] [] Tryz.f150) 1) false ⟨[(6,.p 2 0),(12,.fn 195 [.p 5 0,.p 1 0,.p 0 0]),(13,.p 6 0),(14,.i .i64)],[(0,.ints .u8 3),(1,.ints .u8 3),(2,.ints .u8 3),(5,.cells [.i .u8]),(6,.ints .u8 3)],7,0,0,0⟩ [] [⟨.exit 2,⟨[(6,.p 2 0),(13,.p 6 0)],[(2,.ints .u8 3),(6,.ints .u8 3)],7,0,0,0⟩⟩] (nZ n) n
def c150 (n:Nat):PF Tryz.prog 150 [.ai .u8 3,.ai .u8 3,.i .i64] (.tp q74):=aL Tryz.func150 Tryz.call150 (QI n) [QT n] [0] [] (dM n)
def c145 (n:Nat):FF Tryz.prog 145 [.p 0 0] [.cells [.fn 1000144 [.p 1 0]],.cells q21] 1 2 [⟨.it 126 (.ag [.i .i64,.i .i64]),q66,[],true⟩,⟨.s,q66,[],false⟩]:=funC Tryz.func145 Tryz.call145 [(c144 n).e] [] [] [] [0,1] (gx n)
def c148 (n:Nat):FF Tryz.prog 148 [.p 0 0,.p 2 0] q62 2 4 [⟨.it 126 (.ag [.i .i64,.i .i64]),q58,[],true⟩,⟨.tp [],q58,[],false⟩]:=funC Tryz.func148 Tryz.call148 [(c145 n).e] [] [] [] [0,2,1,3] (iU n)
def c149 (n:Nat):FF Tryz.prog 149 [.p 0 0,.p 2 0] q62 2 4 [⟨.it 126 (.ag [.i .i64,.i .i64]),q58,[],true⟩,⟨.tp [],q58,[],false⟩]:=funC Tryz.func149 Tryz.call149 [(c145 n).e] [] [] [] [0,2,1,3] (iW n)
def c95 (n:Nat):FF Tryz.prog 95 [.p 0 0] q53 0 1 [⟨.it 126 (.ag [.i .i64,.i .i64]),q34,[],true⟩,⟨.tp [.ag q15,.ai .i64 3],q34,[],false⟩]:=funC Tryz.func95 Tryz.call95 [(c142 n).e,(c123 n).e,(c146 n).e,(c150 n).e,(c76 n).e,(c148 n).e,(c149 n).e] [] [0] [] [0] (gD n)
def c100 (n:Nat):PF Tryz.prog 100 [.i .i64] (.i .i64):=aL Tryz.func100 Tryz.call100 [] [] [] [] (db n)
theorem pure_seasons_Check (n:Nat):∀a r,db n a=some r->jP Tryz.prog 100 (argP [.i .i64] a) (encP (.i .i64) r):=λa r h=>(c100 n).ok a r h
def c58 (n:Nat):PF Tryz.prog 58 q56 (.tp [.i .i64,.b]):=aL Tryz.func58 Tryz.call58 [(c99 n),(c100 n).e] [] [] [] (bD n)
def c216 (n:Nat):PF Tryz.prog 216 [.i .i32] (.b):=aL Tryz.func216 Tryz.call216 [] [] [] [] (dq n)
def IL (n:Nat):List (FE Tryz.prog):=[(c176 n).e,(c216 n).e]
def RJ (n:Nat):LP Tryz.prog Tryz.f170.ntmps:=cY (IL n) [] 0 (sb (acM [] [] Tryz.f170) 0) false ⟨[(175,.p 0 0)],[(0,.iter)],1,0,0,0⟩ [] [⟨.ret,⟨q57,[],1,0,0,0⟩⟩,⟨.exit 9,⟨[],[],1,0,0,0⟩⟩] (dl n) n
def R2 (n:Nat):LP Tryz.prog Tryz.f170.ntmps:=cY (IL n) [] 2 (sb (sb (acM [] [] Tryz.f170) 1).body 2) false ⟨q70,[],128,0,0,0⟩ [] [⟨.exit 3,⟨[(8,.i .i64),(9,.i .i64)],[],128,0,0,0⟩⟩] (kS n) n
def OR (n:Nat):LP Tryz.prog Tryz.f170.ntmps:=cY (IL n) [] 2 (sb (sb (acM [] [] Tryz.f170) 1).body 2) false ⟨q70,[],56,0,0,0⟩ [] [⟨.exit 3,⟨[(8,.i .i64),(9,.i .i64)],[],56,0,0,0⟩⟩] (kv n) n
def RB (n:Nat):LP Tryz.prog Tryz.f170.ntmps:=cY (IL n) [altL (R2 n) (OR n) rfl] 1 (sb (acM [] [] Tryz.f170) 1) false ⟨[(0,.s),(7,.s),(8,.i .i64),(9,.i .i64)],[],0,0,0,0⟩ [] [⟨.ret,⟨q57,[],0,0,0,0⟩⟩,⟨.exit 1,q61⟩] (dj n) n
def c170 (n:Nat):PF Tryz.prog 170 [.s,.i .i32] (.i .i64):=aL Tryz.func170 Tryz.call170 (IL n) [RJ n,RB n,noL 3 (sb (acM [] [] Tryz.f170) 3)] [] [] (dr n)
def c160 (n:Nat):PF Tryz.prog 160 [.s,.i .i32] (.b):=aL Tryz.func160 Tryz.call160 [(c170 n).e] [] [] [] (dk n)
def c262 (n:Nat):FF Tryz.prog 262 [.i .i32,.p 0 0] [.cells [.s]] 1 1 [⟨.b,[],[],false⟩]:=funC Tryz.func262 Tryz.call262 [(c160 n).e] [] [] [] [0] (i7 n)
def Ri (n:Nat):List (FE Tryz.prog):=[(c262 n).e]
def Rn (n:Nat):LP Tryz.prog Tryz.f284.ntmps:=cY (Ri n) [] 0 (sb (acM [] [] Tryz.f284) 0) false ⟨[(1,.fn 262 [.p 0 0]),(2,.b),(10,.p 1 0)],[(0,.cells [.s]),(1,.iter)],2,1,1,1⟩ [] [⟨.ret,⟨[(6,.i .i64)],[],2,1,1,1⟩⟩,⟨.exit 0,⟨[],[],2,1,1,1⟩⟩] (co n) n
def c284 (n:Nat):FF Tryz.prog 284 [.s,.fn 262 [.p 0 0],.b] [.cells [.s]] 1 1 [⟨.i .i64,[],[],false⟩]:=funC Tryz.func284 Tryz.call284 (Ri n) [Rn n] [] [] [0] (jT n)
def c261 (n:Nat):FF Tryz.prog 261 [.s,.fn 262 [.p 0 0]] [.cells [.s]] 1 1 [⟨.i .i64,[],[],false⟩]:=funC Tryz.func261 Tryz.call261 [(c284 n).e] [] [] [] [0] (kb n)
def c231 (n:Nat):PF Tryz.prog 231 [.s,.s] (.b):=aL Tryz.func231 Tryz.call231 [(c261 n).e] [] [] [] (fG n)
def RG (n:Nat):LP Tryz.prog Tryz.f101.ntmps:=cY [] [] 0 (sb (acM [] [] Tryz.f101) 0) false ⟨[(0,.s),(1,.i .u8)],[],0,0,0,0⟩ [] [⟨.exit 0,⟨[(0,.s)],[],0,0,0,0⟩⟩] (cT n) n
def c101 (n:Nat):PF Tryz.prog 101 [.s,.i .u8] (.s):=aL Tryz.func101 Tryz.call101 [] [RG n] [] [] (fh n)
def Qb (n:Nat):LP Tryz.prog Tryz.f263.ntmps:=cY [] [] 0 (sb (acM [] [] Tryz.f263) 0) false ⟨[(0,.s),(1,.i .u8)],[],0,0,0,0⟩ [] [⟨.exit 0,⟨[(0,.s)],[],0,0,0,0⟩⟩] (dZ n) n
def c263 (n:Nat):PF Tryz.prog 263 [.s,.i .u8] (.s):=aL Tryz.func263 Tryz.call263 [] [Qb n] [] [] (fM n)
def c232 (n:Nat):PF Tryz.prog 232 [.s,.sk [48]] (.s):=aL Tryz.func232 Tryz.call232 [(c101 n).e,(c263 n).e] [] [] [] (lY n)
def c211 (n:Nat):PF Tryz.prog 211 [.s,.sk [88]] (.i .i64):=aL Tryz.func211 Tryz.call211 [(c219 n).e] [noL 0 (sb (acM [] [] Tryz.f211) 0)] [] [] (gX n)
def c161 (n:Nat):PF Tryz.prog 161 [.s,.sk [88]] (.i .i64):=aL Tryz.func161 Tryz.call161 [(c211 n).e] [] [] [] (lh n)
def c106 (n:Nat):PF Tryz.prog 106 [.s,.sk [88]] (.b):=aL Tryz.func106 Tryz.call106 [(c161 n).e] [] [] [] (gq n)
def c196 (n:Nat):PF Tryz.prog 196 q80 (.b):=aL Tryz.func196 Tryz.call196 [(c106 n).e] [] [] [] (cG n)
noncomputable def HA (_n:Nat):Ent:=Ig 267
theorem F4 (n:Nat):fO Tryz.prog (HA n):=GI Tryz.call267 λs h v hv w=>(Tryz.strconv_ParseInt_10_at64_ok s h v hv w).mono λe w' ⟨h1,h2⟩=>⟨h1,h2.elim (λh=>h▸RowKit.Below.refl _ _) (λ⟨t,h⟩=>h▸nO _ _ _)⟩
def c267 (n:Nat):FE Tryz.prog:=libF (F4 n)
def P9 (n:Nat):LP Tryz.prog Tryz.f268.ntmps:=cY [] [] 0 (sb (acM [] [] Tryz.f268) 0) false ⟨[(4,.i .i64),(9,.i .i64),(10,.i .i64)],[],0,0,0,0⟩ [] [⟨.exit 0,⟨q57,[],0,0,0,0⟩⟩] (jA n) n
def c268 (n:Nat):PF Tryz.prog 268 [.i .i64] (.tp [.i .i64,.i .i64]):=aL Tryz.func268 Tryz.call268 [] [P9 n] [] [] (mS n)
def c290 (n:Nat):PF Tryz.prog 290 [.i .i64] (.i .u64):=aL Tryz.func290 Tryz.call290 [] [] [] [] (qH n)
def c289 (n:Nat):PF Tryz.prog 289 [.i .u64,.i .u64] (.tp [.i .u64,.i .u64]):=aL Tryz.func289 Tryz.call289 [] [] [] [] (jw n)
def c291 (n:Nat):PF Tryz.prog 291 [.i .u64,.b] (.tp [.i .i64,.i .i64]):=aL Tryz.func291 Tryz.call291 [] [] [] [] (qy n)
def c269 (n:Nat):PF Tryz.prog 269 [.i .i64,.i .i64] (.tp [.i .i64,.i .i64]):=aL Tryz.func269 Tryz.call269 [(c290 n).e,(c289 n).e,(c291 n).e] [] [] [] (ta n)
def c235 (n:Nat):PF Tryz.prog 235 q80 (.tp [.i .i64,.i .i64]):=aL Tryz.func235 Tryz.call235 [(c267 n),(c268 n).e,(c269 n).e] [] [] [] (dw n)
def c233 (n:Nat):PF Tryz.prog 233 q80 (.b):=aL Tryz.func233 Tryz.call233 [(c231 n).e,(c235 n).e] [] [] [] (aR n)
def c189 (n:Nat):PF Tryz.prog 189 q80 (.i .i64):=aL Tryz.func189 Tryz.call189 [(c231 n).e,(c232 n).e,(c196 n).e,(c233 n).e] [] [] [] (gV n)
def c197 (n:Nat):PF Tryz.prog 197 q80 (.tp [.i .i64,.i .i64]):=aL Tryz.func197 Tryz.call197 [(c189 n).e,(c196 n).e,(c235 n).e] [] [] [] (dK n)
noncomputable def xj (l:List V):Option (Int):=match l with
 | [.i .i64 a0]=>some (a0)
 | _=>none
noncomputable def Hq (n:Nat):Ent:=AB 236 xj (λa=>eG n a) (λr=>.tp [.i .i64 r.1,.i .i64 r.2.1,.i .i64 r.2.2])
theorem Gh (n:Nat):fO Tryz.prog (Hq n):=qM (arg:=λa=>[.i .i64 a]) Tryz.call236 (λl a h=>by
 unfold xj at h
 split at h
 ·cases h;rfl
 ·cases h) (λa=>rfl) (λa r h=>qh n (λx r h=>pure_seasons_Check n x r h) a r h)
def c236 (n:Nat):FE Tryz.prog:=libF (Gh n)
def c275 (n:Nat):PF Tryz.prog 275 [.i .i64] (.i .i64):=aL Tryz.func275 Tryz.call275 [] [] [] [] (g9 n)
def c270 (n:Nat):PF Tryz.prog 270 [.i .i64,.i .i64] (.i .i64):=aL Tryz.func270 Tryz.call270 [(c275 n).e] [] [] [] (jf n)
def c294 (n:Nat):PF Tryz.prog 294 [.i .i64,.i .i64] (.tp [.i .i64,.i .i64]):=aL Tryz.func294 Tryz.call294 [] [] [] [] (Dp n)
def c273 (n:Nat):PF Tryz.prog 273 [.i .i64,.i .i64] (.tp [.i .i64,.i .i64]):=aL Tryz.func273 Tryz.call273 [(c294 n).e] [] [] [] (ki n)
theorem pure_ints_Div (n:Nat):∀a r,ki n a.1 a.2=some r->jP Tryz.prog 273 (argP [.i .i64,.i .i64] a) (encP (.tp [.i .i64,.i .i64]) r):=λa r h=>(c273 n).ok a r h
noncomputable def xe (l:List V):Option (Int):=match l with
 | [.i .i64 a0]=>some (a0)
 | _=>none
noncomputable def Ii (n:Nat):Ent:=AB 300 xe (λa=>eI n a) (λr=>.i .i64 r)
theorem FB (n:Nat):fO Tryz.prog (Ii n):=qM (arg:=λa=>[.i .i64 a]) Tryz.call300 (λl a h=>by
 unfold xe at h
 split at h
 ·cases h;rfl
 ·cases h) (λa=>rfl) (λa r h=>sg n (λx y r h=>pure_ints_Div n (x,y) r h) a r h)
def c300 (n:Nat):FE Tryz.prog:=libF (FB n)
def c281 (n:Nat):PF Tryz.prog 281 [.i .i64] (.i .i64):=aL Tryz.func281 Tryz.call281 [(c300 n)] [] [] [] (ka n)
def c253 (n:Nat):PF Tryz.prog 253 [.i .i64] (.tp [.i .i64,.i .i64]):=aL Tryz.func253 Tryz.call253 [(c275 n).e,(c281 n).e] [] [] [] (jQ n)
def c292 (n:Nat):PF Tryz.prog 292 [.i .i64] (.tp [.b,.i .i64]):=aL Tryz.func292 Tryz.call292 [(c275 n).e,(c300 n)] [] [] [] (jd n)
theorem pure_years_Leap (n:Nat):∀a r,jd n a=some r->jP Tryz.prog 292 (argP [.i .i64] a) (encP (.tp [.b,.i .i64]) r):=λa r h=>(c292 n).ok a r h
noncomputable def wX (l:List V):Option (Int×Int):=match l with
 | [.i .i64 a0,.i .i64 a1]=>some (a0,a1)
 | _=>none
noncomputable def HN (n:Nat):Ent:=AB 271 wX (λa=>dH n a.1 a.2) (λr=>.i .i64 r)
theorem Gj (n:Nat):fO Tryz.prog (HN n):=qM (arg:=λa=>[.i .i64 a.1,.i .i64 a.2]) Tryz.call271 (λl a h=>by
 unfold wX at h
 split at h
 ·cases h;rfl
 ·cases h) (λa=>rfl) (λa r h=>rf n (λx r h=>pure_years_Leap n x r h) a.1 a.2 r h)
def c271 (n:Nat):FE Tryz.prog:=libF (Gj n)
def Sj (n:Nat):List (FE Tryz.prog):=[(c270 n).e,(c253 n).e,(c271 n)]
def Su (n:Nat):LP Tryz.prog Tryz.f237.ntmps:=cY (Sj n) [] 0 (sb (acM [] [] Tryz.f237) 0) false ⟨[(0,.i .i64),(7,.i .i64),(22,.i .i64),(23,.i .i64)],[],0,0,0,0⟩ [] [⟨.exit 0,⟨[(7,.i .i64)],[],0,0,0,0⟩⟩] (bv n) n
def c237 (n:Nat):PF Tryz.prog 237 [.i .i64,.i .i64] (.tp [.i .i64,.i .i64]):=aL Tryz.func237 Tryz.call237 (Sj n) [Su n] [] [] (eH n)
noncomputable def wj (l:List V):Option (Int×Int):=match l with
 | [.i .i64 a0,.i .i64 a1]=>some (a0,a1)
 | _=>none
noncomputable def Gz (n:Nat):Ent:=AB 272 wj (λa=>pK n a.1 a.2) (λr=>.tp [.i .i64 r.1,.i .i64 r.2])
theorem Gk (n:Nat):fO Tryz.prog (Gz n):=qM (arg:=λa=>[.i .i64 a.1,.i .i64 a.2]) Tryz.call272 (λl a h=>by
 unfold wj at h
 split at h
 ·cases h;rfl
 ·cases h) (λa=>rfl) (λa r h=>ya n a.1 a.2 r h)
def c272 (n:Nat):FE Tryz.prog:=libF (Gk n)
def c274 (n:Nat):PF Tryz.prog 274 [.i .i64,.i .i64] (.tp [.i .i64,.i .i64]):=aL Tryz.func274 Tryz.call274 [] [] [] [] (tg n)
def c238 (n:Nat):PF Tryz.prog 238 [.i .i64,.i .i64,.i .i64] (.tp [.i .i64,.i .i64,.i .i64]):=aL Tryz.func238 Tryz.call238 [(c270 n).e,(c272 n),(c273 n).e,(c274 n).e,(c275 n).e] [] [] [] (mG n)
def c239 (n:Nat):PF Tryz.prog 239 [.i .i64,.i .i64] (.tp [.i .i64,.i .i64]):=aL Tryz.func239 Tryz.call239 [(c237 n).e,(c271 n)] [] [] [] (fW n)
def c198 (n:Nat):PF Tryz.prog 198 [.i .i64,.i .i64] (.tp [.ag q44,.i .i64]):=aL Tryz.func198 Tryz.call198 [(c236 n),(c237 n).e,(c238 n).e,(c239 n).e] [] [] [] (gj n)
def c151 (n:Nat):PF Tryz.prog 151 q56 (.b):=aL Tryz.func151 Tryz.call151 [(c189 n).e,(c58 n).e,(c196 n).e,(c197 n).e,(c198 n).e] [] [] [] (eU n)
def QE (n:Nat):LP Tryz.prog Tryz.f152.ntmps:=cY [] [] 0 (sb (acM [] [] Tryz.f152) 0) false q79 [] q81 (cM n) n
def c152 (n:Nat):PF Tryz.prog 152 q21 (.b):=aL Tryz.func152 Tryz.call152 [] [QE n] [] [] (cE n)
def RI (n:Nat):LP Tryz.prog Tryz.f135.ntmps:=cY [] [] 0 (sb (acM [] [] Tryz.f135) 0) false ⟨[(3,.i .i64),(10,.ag [.s,.s]),(11,.i .i64)],[],1,0,0,0⟩ [] [⟨.exit 0,⟨[(3,.i .i64)],[],1,0,0,0⟩⟩] (bN n) n
def c135 (n:Nat):PF Tryz.prog 135 q56 (.i .i64):=aL Tryz.func135 Tryz.call135 [] [RI n] [] [] (bB n)
def c96 (n:Nat):PF Tryz.prog 96 q56 (.i .i64):=aL Tryz.func96 Tryz.call96 [(c58 n).e,(c151 n).e,(c152 n).e,(c135 n).e,(c153 n).e] [] [] [] (gW n)
def c240 (n:Nat):PF Tryz.prog 240 q21 (.b):=aL Tryz.func240 Tryz.call240 [] [] [] [] (jD n)
def RN (n:Nat):List (FE Tryz.prog):=[(c240 n).e]
def RF (n:Nat):LP Tryz.prog Tryz.f199.ntmps:=cY (RN n) [] 0 (sb (acM [] [] Tryz.f199) 0) false ⟨[(0,.s),(5,.ws 0),(7,.i .i64),(8,.i .i64)],q50,1,0,0,0⟩ [.nilT 5 0 [.i .i64]] [⟨.exit 0,⟨[(5,.ws 0)],q50,1,0,0,0⟩⟩] (eX n) n
def c199 (n:Nat):FF Tryz.prog 199 q21 [] 0 0 [⟨.ws 0,q50,[0],false⟩]:=funC Tryz.func199 Tryz.call199 (RN n) [RF n] [] [] [] (eC n)
def c154 (n:Nat):FF Tryz.prog 154 q56 [] 0 0 [⟨.ag q25,[(0,.rows [.i .i64]),(1,.rows [.i .i64])],[0,1],false⟩]:=funC Tryz.func154 Tryz.call154 [(c58 n).e,(c199 n).e] [] [] [] [] (mX n)
def c200 (n:Nat):FF Tryz.prog 200 [.ws 0] q59 1 1 [⟨.ws 1,[(1,.rows [.i .i64])],[1],false⟩]:=funC Tryz.func200 Tryz.call200 [] [] [] [] [0] (iE n)
def Ql (n:Nat):LP Tryz.prog Tryz.f201.ntmps:=cY [] [] 0 (sb (acM [] [] Tryz.f201) 0) false ⟨[(0,.ws 0),(2,.i .i64),(3,.i .i64)],q50,1,1,0,1⟩ [] [⟨.exit 0,⟨[],q50,1,1,0,1⟩⟩] (iH n) n
def c201 (n:Nat):FF Tryz.prog 201 [.ws 0] q59 0 1 [⟨.tp [],q50,[],false⟩]:=funC Tryz.func201 Tryz.call201 [] [Ql n] [] [] [0] (gN n)
def QA (n:Nat):LP Tryz.prog Tryz.f295.ntmps:=cY [] [] 0 (sb (acM [] [] Tryz.f295) 0) false ⟨[(0,.s),(9,.p 0 0)],[(0,.iter)],1,0,0,0⟩ [] [⟨.ret,⟨[(2,.i .i64)],[],1,0,0,0⟩⟩,⟨.exit 0,⟨[(0,.s)],[],1,0,0,0⟩⟩] (gI n) n
def c295 (n:Nat):PF Tryz.prog 295 [.s] (.i .i64):=aL Tryz.func295 Tryz.call295 [] [QA n] [] [] (jc n)
def Qy (n:Nat):LP Tryz.prog Tryz.f306.ntmps:=cY [] [] 0 (sb (acM [] [] Tryz.f306) 0) false ⟨[(1,.i .u8),(5,.i .i64),(9,.ws 0),(10,.i .i64),(11,.i .i64)],[(0,.rows [.i .u8])],1,0,0,0⟩ [] [⟨.exit 0,⟨[(5,.i .i64)],[],1,0,0,0⟩⟩] (fQ n) n
def c306 (n:Nat):PF Tryz.prog 306 [.s,.i .u8] (.i .i64):=aL Tryz.func306 Tryz.call306 [] [Qy n] [] [] (kI n)
def c296 (n:Nat):PF Tryz.prog 296 [.s] (.tp [.i .i64,.i .i64]):=aL Tryz.func296 Tryz.call296 [(c295 n).e,(c306 n).e] [] [] [] (nN n)
def c307 (n:Nat):PF Tryz.prog 307 [.i .i64] (.i .i64):=aL Tryz.func307 Tryz.call307 [(c268 n).e] [] [] [] (na n)
def c297 (n:Nat):PF Tryz.prog 297 q21 (.b):=aL Tryz.func297 Tryz.call297 [(c307 n).e] [] [] [] (kz n)
def RQ (n:Nat):LP Tryz.prog Tryz.f308.ntmps:=cY [] [] 0 (sb (acM [] [] Tryz.f308) 0) false ⟨[(1,.i .i64),(4,.p 0 0),(5,.i .i64)],[(0,.ints .u8 18)],1,0,0,0⟩ [] [⟨.exit 0,⟨[(4,.p 0 0)],[(0,.ints .u8 18)],1,0,0,0⟩⟩] (gL n) n
def c308 (n:Nat):PF Tryz.prog 308 q21 (.ai .u8 18):=aL Tryz.func308 Tryz.call308 [] [RQ n] [] [] (jR n)
def c309 (n:Nat):PF Tryz.prog 309 [.s,.ai .u8 18] (.i .i64):=aL Tryz.func309 Tryz.call309 [(c306 n).e] [] [] [] (ft n)
def MN (n:Nat):List (FE Tryz.prog):=[(c308 n).e,(c309 n).e]
def Sl (n:Nat):LP Tryz.prog Tryz.f298.ntmps:=cY (MN n) [] 0 (sb (acM [] [] Tryz.f298) 0) false q49 [] [⟨.exit 0,q49⟩] (eM n) n
def RE (n:Nat):LP Tryz.prog Tryz.f298.ntmps:=cY (MN n) [] 1 (sb (acM [] [] Tryz.f298) 1) false ⟨[(0,.s),(2,.b),(8,.i .u8),(9,.i .u8),(10,.p 0 0),(11,.p 1 0),(12,.i .i64)],[(0,.ints .u8 18),(1,.ints .u8 18)],74,0,0,0⟩ [] [⟨.ret,⟨[(6,.i .i64),(7,.i .i64)],[],74,0,0,0⟩⟩,⟨.exit 2,⟨[(0,.s),(2,.b),(8,.i .u8),(11,.p 1 0),(12,.i .i64)],[(1,.ints .u8 18)],74,0,0,0⟩⟩] (bX n) n
def Qk (n:Nat):LP Tryz.prog Tryz.f298.ntmps:=cY (MN n) [] 2 (sb (acM [] [] Tryz.f298) 2) false ⟨[(0,.s),(8,.i .u8),(11,.p 1 0),(12,.i .i64)],[(1,.ints .u8 18)],74,0,0,0⟩ [] [⟨.exit 5,⟨[(0,.s),(11,.p 1 0)],[(1,.ints .u8 18)],74,0,0,0⟩⟩] (bi n) n
def c298 (n:Nat):PF Tryz.prog 298 [.s,.i .i64,.b] (.tp [.i .i64,.i .i64]):=aL Tryz.func298 Tryz.call298 (MN n) [Sl n,RE n,Qk n] [] [] (cQ n)
def c276 (n:Nat):PF Tryz.prog 276 q21 (.tp [.i .i64,.i .i64]):=aL Tryz.func276 Tryz.call276 [(c295 n).e,(c296 n).e,(c297 n).e,(c298 n).e] [] [] [] (pt n)
def c299 (n:Nat):PF Tryz.prog 299 [.s] (.tp [.i .i64,.i .i64]):=aL Tryz.func299 Tryz.call299 [(c295 n).e,(c306 n).e] [] [] [] (kl n)
def c277 (n:Nat):PF Tryz.prog 277 q21 (.tp [.i .i64,.i .i64]):=aL Tryz.func277 Tryz.call277 [(c295 n).e,(c297 n).e,(c299 n).e,(c298 n).e] [] [] [] (pj n)
def c241 (n:Nat):PF Tryz.prog 241 [.s,.i .i64,.b,.i .i64] (.tp [.i .i64,.b]):=aL Tryz.func241 Tryz.call241 [(c276 n).e,(c277 n).e] [] [] [] (eP n)
def c203 (n:Nat):FF Tryz.prog 203 [.ag q25,.i .i64,.b] q68 2 2 [⟨.tp [.i .i64,.b],[],[],false⟩]:=funC Tryz.func203 Tryz.call203 [(c196 n).e,(c197 n).e,(c241 n).e] [] [] [] [0,1] (bR n)
def c202 (n:Nat):FF Tryz.prog 202 [.i .i64,.i .i64,.p 0 0] [.cells [.b]] 1 1 [⟨.b,[],[],false⟩]:=funC Tryz.func202 Tryz.call202 [] [] [] [] [0] (cj n)
def c242 (n:Nat):PF Tryz.prog 242 [.i .i64,.i .i64] (.tp [.i .i64,.i .i64]):=aL Tryz.func242 Tryz.call242 [(c270 n).e,(c271 n)] [] [] [] (mL n)
def c204 (n:Nat):FF Tryz.prog 204 [.ag q25,.i .i64,.i .i64] q68 2 2 [⟨.i .i64,[],[],false⟩]:=funC Tryz.func204 Tryz.call204 [(c242 n).e] [] [] [] [0,1] (dW n)
def pN (n:Nat):List (FE Tryz.prog):=[(c200 n).e,(c201 n).e,(c203 n).e,(c202 n).e,(c204 n).e]
def SJ (n:Nat):LP Tryz.prog Tryz.f155.ntmps:=pL (pN n) [] 1003 (sb (acM [] [3,17,20,23,30] Tryz.f155) 1003) false ⟨[(3,.p 2 0),(4,.p 3 0),(5,.p 4 0),(6,.p 5 0),(8,.ik .i64 1),(9,.ws 0),(10,.ws 1),(25,.b)],q47,62,2,2,2⟩ [⟨.nrm,⟨[(3,.p 2 0),(4,.p 3 0),(5,.p 4 0),(6,.p 5 0),(8,.ik .i64 (-1)),(9,.ws 62),(10,.ws 63)],[(0,.rows [.i .i64]),(1,.rows [.i .i64]),(2,.cells q25),(3,.cells [.i .i64,.i .i64,.i .i64]),(4,.cells [.b]),(5,.cells [.ik .i64 0,.ik .i64 0,.ik .i64 0]),(62,.rows [.i .i64]),(63,.rows [.i .i64])],64,2,2,2⟩⟩,⟨.nrm,⟨[(3,.p 2 0),(4,.p 3 0),(5,.p 4 0),(6,.p 5 0),(8,.ik .i64 1),(9,.ws 0),(10,.ws 1)],q47,62,2,2,2⟩⟩] (il n)
def It (n:Nat):LP Tryz.prog Tryz.f155.ntmps:=pL (pN n) [] 1020 (sb (sb (sb (sb (acM [] [3,17,20,23,30] Tryz.f155) 0).body 1).body 1017) 1020) false ⟨[(3,.p 2 0),(4,.p 3 0),(5,.p 4 0),(6,.p 5 0),(8,.i .i64),(9,.ws 62),(10,.ws 63),(11,.fn 202 [.p 4 0]),(12,.i .i64),(15,.i .i64),(16,.b),(53,.ws 62),(54,.i .i64),(55,.i .i64)],q12,64,2,2,2⟩ [⟨.nrm,⟨[(3,.p 2 0),(4,.p 3 0),(5,.p 4 0),(6,.p 5 0),(8,.i .i64),(9,.ws 62),(10,.ws 63),(11,.fn 202 [.p 4 0]),(12,.i .i64),(15,.i .i64),(16,.b),(53,.ws 62),(54,.i .i64),(55,.i .i64),(76,.b)],q12,64,2,2,2⟩⟩] (jN n)
def Fg (n:Nat):LP Tryz.prog Tryz.f155.ntmps:=pL (pN n) [] 1020 (sb (sb (sb (sb (acM [] [3,17,20,23,30] Tryz.f155) 0).body 1).body 1017) 1020) false ⟨[(3,.p 2 0),(4,.p 3 0),(5,.p 4 0),(6,.p 5 0),(8,.i .i64),(9,.ws 0),(10,.ws 1),(11,.fn 202 [.p 4 0]),(12,.i .i64),(15,.i .i64),(16,.b),(53,.ws 0),(54,.i .i64),(55,.i .i64)],q14,62,2,2,2⟩ [⟨.nrm,⟨[(3,.p 2 0),(4,.p 3 0),(5,.p 4 0),(6,.p 5 0),(8,.i .i64),(9,.ws 0),(10,.ws 1),(11,.fn 202 [.p 4 0]),(12,.i .i64),(15,.i .i64),(16,.b),(53,.ws 0),(54,.i .i64),(55,.i .i64),(76,.b)],q14,62,2,2,2⟩⟩] (ef n)
def JY (n:Nat):LP Tryz.prog Tryz.f155.ntmps:=pL (pN n) [] 1023 (sb (sb (sb (sb (acM [] [3,17,20,23,30] Tryz.f155) 0).body 1).body 1017) 1023) false q42 [⟨.nrm,q42⟩] (jK n)
def Db (n:Nat):LP Tryz.prog Tryz.f155.ntmps:=pL (pN n) [] 1023 (sb (sb (sb (sb (acM [] [3,17,20,23,30] Tryz.f155) 0).body 1).body 1017) 1023) false q43 [⟨.nrm,q43⟩] (eu n)
def Hr (n:Nat):LP Tryz.prog Tryz.f155.ntmps:=pL (pN n) [] 1030 (sb (sb (sb (sb (sb (acM [] [3,17,20,23,30] Tryz.f155) 0).body 1).body 1017) 2).body 1030) false ⟨[(3,.p 2 0),(4,.p 3 0),(5,.p 4 0),(6,.p 5 0),(8,.i .i64),(9,.ws 62),(10,.ws 63),(11,.fn 202 [.p 4 0]),(12,.i .i64),(15,.i .i64),(16,.b),(17,.i .i64),(19,.i .i64),(53,.ws 62),(54,.i .i64),(55,.i .i64),(94,.ws 63),(95,.i .i64),(96,.i .i64)],q12,64,2,2,2⟩ [⟨.nrm,⟨[(3,.p 2 0),(4,.p 3 0),(5,.p 4 0),(6,.p 5 0),(8,.i .i64),(9,.ws 62),(10,.ws 63),(11,.fn 202 [.p 4 0]),(12,.i .i64),(15,.i .i64),(16,.b),(17,.i .i64),(19,.i .i64),(53,.ws 62),(54,.i .i64),(55,.i .i64),(94,.ws 63),(95,.i .i64),(96,.i .i64),(119,.b)],q12,64,2,2,2⟩⟩] (jO n)
def ER (n:Nat):LP Tryz.prog Tryz.f155.ntmps:=pL (pN n) [] 1030 (sb (sb (sb (sb (sb (acM [] [3,17,20,23,30] Tryz.f155) 0).body 1).body 1017) 2).body 1030) false ⟨[(3,.p 2 0),(4,.p 3 0),(5,.p 4 0),(6,.p 5 0),(8,.i .i64),(9,.ws 0),(10,.ws 1),(11,.fn 202 [.p 4 0]),(12,.i .i64),(15,.i .i64),(16,.b),(17,.i .i64),(19,.i .i64),(53,.ws 0),(54,.i .i64),(55,.i .i64),(94,.ws 1),(95,.i .i64),(96,.i .i64)],q14,62,2,2,2⟩ [⟨.nrm,⟨[(3,.p 2 0),(4,.p 3 0),(5,.p 4 0),(6,.p 5 0),(8,.i .i64),(9,.ws 0),(10,.ws 1),(11,.fn 202 [.p 4 0]),(12,.i .i64),(15,.i .i64),(16,.b),(17,.i .i64),(19,.i .i64),(53,.ws 0),(54,.i .i64),(55,.i .i64),(94,.ws 1),(95,.i .i64),(96,.i .i64),(119,.b)],q14,62,2,2,2⟩⟩] (gn n)
def NK (n:Nat):LP Tryz.prog Tryz.f155.ntmps:=cY (pN n) [altL (Hr n) (ER n) rfl] 2 (sb (sb (sb (sb (acM [] [3,17,20,23,30] Tryz.f155) 0).body 1).body 1017) 2) false ⟨[(3,.p 2 0),(4,.p 3 0),(5,.p 4 0),(6,.p 5 0),(8,.i .i64),(9,.ws 62),(10,.ws 63),(11,.fn 202 [.p 4 0]),(12,.i .i64),(15,.i .i64),(16,.b),(17,.i .i64),(53,.ws 62),(54,.i .i64),(55,.i .i64),(94,.ws 63),(95,.i .i64),(96,.i .i64)],q12,64,2,2,2⟩ [] [⟨.ret,q77⟩,⟨.exit 4,q24⟩] (ky n) n
def JL (n:Nat):LP Tryz.prog Tryz.f155.ntmps:=cY (pN n) [altL (Hr n) (ER n) rfl] 2 (sb (sb (sb (sb (acM [] [3,17,20,23,30] Tryz.f155) 0).body 1).body 1017) 2) false ⟨[(3,.p 2 0),(4,.p 3 0),(5,.p 4 0),(6,.p 5 0),(8,.i .i64),(9,.ws 0),(10,.ws 1),(11,.fn 202 [.p 4 0]),(12,.i .i64),(15,.i .i64),(16,.b),(17,.i .i64),(53,.ws 0),(54,.i .i64),(55,.i .i64),(94,.ws 1),(95,.i .i64),(96,.i .i64)],q14,62,2,2,2⟩ [] [⟨.ret,q78⟩,⟨.exit 4,q26⟩] (bA n) n
def G3 (n:Nat):LP Tryz.prog Tryz.f155.ntmps:=pL (pN n) [altL (It n) (Fg n) rfl,altL (JY n) (Db n) rfl,altL (NK n) (JL n) rfl] 1017 (sb (sb (sb (acM [] [3,17,20,23,30] Tryz.f155) 0).body 1).body 1017) false q24 [⟨.nrm,q24⟩,⟨.ret,q77⟩] (jM n)
def Df (n:Nat):LP Tryz.prog Tryz.f155.ntmps:=pL (pN n) [altL (It n) (Fg n) rfl,altL (JY n) (Db n) rfl,altL (NK n) (JL n) rfl] 1017 (sb (sb (sb (acM [] [3,17,20,23,30] Tryz.f155) 0).body 1).body 1017) false q26 [⟨.nrm,q26⟩,⟨.ret,q78⟩] (fZ n)
def M5 (n:Nat):LP Tryz.prog Tryz.f155.ntmps:=cY (pN n) [altL (G3 n) (Df n) rfl] 1 (sb (sb (acM [] [3,17,20,23,30] Tryz.f155) 0).body 1) false q24 [] [⟨.ret,q77⟩,⟨.exit 2,⟨[(3,.p 2 0),(4,.p 3 0),(5,.p 4 0),(6,.p 5 0),(8,.i .i64),(9,.ws 62),(10,.ws 63),(11,.fn 202 [.p 4 0]),(12,.i .i64)],q12,64,2,2,2⟩⟩] (kw n) n
def Jy (n:Nat):LP Tryz.prog Tryz.f155.ntmps:=cY (pN n) [altL (G3 n) (Df n) rfl] 1 (sb (sb (acM [] [3,17,20,23,30] Tryz.f155) 0).body 1) false q26 [] [⟨.ret,q78⟩,⟨.exit 2,⟨[(3,.p 2 0),(4,.p 3 0),(5,.p 4 0),(6,.p 5 0),(8,.i .i64),(9,.ws 0),(10,.ws 1),(11,.fn 202 [.p 4 0]),(12,.i .i64)],q14,62,2,2,2⟩⟩] (bQ n) n
def Rr (n:Nat):LP Tryz.prog Tryz.f155.ntmps:=cY (pN n) [altL (M5 n) (Jy n) rfl] 0 (sb (acM [] [3,17,20,23,30] Tryz.f155) 0) false ⟨[(3,.p 2 0),(4,.p 3 0),(5,.p 4 0),(6,.p 5 0),(8,.i .i64),(9,.ws 62),(10,.ws 63),(11,.fn 202 [.p 4 0]),(12,.i .i64),(13,.b)],q12,64,2,2,2⟩ [] [⟨.ret,q77⟩,⟨.exit 0,⟨[(6,.p 5 0)],q31,64,2,2,2⟩⟩] (kH n) n
def N5 (n:Nat):LP Tryz.prog Tryz.f155.ntmps:=cY (pN n) [altL (M5 n) (Jy n) rfl] 0 (sb (acM [] [3,17,20,23,30] Tryz.f155) 0) false ⟨[(3,.p 2 0),(4,.p 3 0),(5,.p 4 0),(6,.p 5 0),(8,.i .i64),(9,.ws 0),(10,.ws 1),(11,.fn 202 [.p 4 0]),(12,.i .i64),(13,.b)],q14,62,2,2,2⟩ [] [⟨.ret,q78⟩,⟨.exit 0,⟨[(6,.p 5 0)],q31,62,2,2,2⟩⟩] (cu n) n
def c155 (n:Nat):FF Tryz.prog 155 [.ag q25,.ag [.i .i64,.i .i64,.i .i64],.b] q68 2 2 [⟨.tp [.ag [.i .i64,.i .i64,.i .i64],.b],[],[],false⟩]:=funC Tryz.func155 Tryz.call155 (pN n) [SJ n,altL (Rr n) (N5 n) rfl] [] [3,17,20,23,30] [0,1] (gQ n)
def c97 (n:Nat):PF Tryz.prog 97 q56 (.i .i64):=aL Tryz.func97 Tryz.call97 [(c96 n).e,(c154 n).e,(c155 n).e] [] [] [] (bp n)
def c57 (n:Nat):FF Tryz.prog 57 [.p 0 0] q53 0 1 [⟨.it 126 (.ag [.i .i64,.i .i64]),q34,[],true⟩,⟨.tp [.ag q15,.i .i64],q34,[],false⟩]:=funC Tryz.func57 Tryz.call57 [(c95 n).e,(c97 n).e,(c98 n).e] [] [] [] [0] (fa n)
def c78E (n:Nat):List (FE Tryz.prog):=[(c76 n).e,(c120 n).e,(c123 n).e,(c98 n).e]
def Tf (n:Nat):LP Tryz.prog Tryz.f78.ntmps:=cY (c78E n) [] 0 (sb (acM [] [] Tryz.f78) 0) false ⟨[(0,.p 0 0),(1,.s),(4,.i .i64),(5,.s)],q34,1,1,0,1⟩ [] [⟨.exit 0,⟨[(0,.p 0 0),(4,.i .i64)],q34,1,1,0,1⟩⟩] (dp n) n
def c78 (n:Nat):FF Tryz.prog 78 [.p 0 0,.s] q53 0 1 [⟨.tp [],q34,[],false⟩,⟨.it 126 (.ag [.i .i64,.i .i64]),q34,[],true⟩]:=funC Tryz.func78 Tryz.call78 (c78E n) [Tf n] [] [] [0] (bO n)
def c125 (n:Nat):FF Tryz.prog 125 [.ws 0] [.rows q11] 1 1 [⟨.rs 21 0 0 .q (some .q),[],[],false⟩]:=funC Tryz.func125 Tryz.call125 [] [] [] [] [0] (bu n)
def c133 (n:Nat):FF Tryz.prog 133 [.ag q20] [.rows q11] 1 1 [⟨.b,[],[],false⟩]:=funC Tryz.func133 Tryz.call133 [] [] [] [] [0] (mh n)
def c61 (n:Nat):PF Tryz.prog 61 q56 (.b):=aL Tryz.func61 Tryz.call61 [(c106 n).e] [] [] [] (dT n)
def c179 (n:Nat):PF Tryz.prog 179 q56 (.b):=aL Tryz.func179 Tryz.call179 [(c61 n).e] [] [] [] (kB n)
def c127 (n:Nat):PF Tryz.prog 127 [.ag q51] (.i .i64):=aL Tryz.func127 Tryz.call127 [(c97 n).e,(c179 n).e] [] [] [] (ic n)
def c220 (n:Nat):FF Tryz.prog 220 [] [] 0 0 [⟨.mp 0,[(0,.mp .u8 [(0,251),(1,252),(2,256),(3,257)])],[0],false⟩]:=funC Tryz.func220 Tryz.call220 [] [] [] [] [] (hJ n)
def c221 (n:Nat):PF Tryz.prog 221 q56 (.i .u8):=aL Tryz.func221 Tryz.call221 [(c58 n).e] [] [] [] (aW n)
def c251 (n:Nat):FF Tryz.prog 251 [.i .i64,.ws 0] q59 1 1 [⟨.ag q44,[],[],false⟩]:=funC Tryz.func251 Tryz.call251 [(c198 n).e] [] [] [] [0] (fm n)
def c254 (n:Nat):PF Tryz.prog 254 [.i .i64] (.tp [.i .i64,.i .i64]):=aL Tryz.func254 Tryz.call254 [(c275 n).e,(c281 n).e] [] [] [] (qN n)
def c282 (n:Nat):PF Tryz.prog 282 [.i .i64] (.ag [.i .i8,.i .i64]):=aL Tryz.func282 Tryz.call282 [] [] [] [] (BD n)
def c255 (n:Nat):PF Tryz.prog 255 [.i .i64,.i .i64] (.ag q44):=aL Tryz.func255 Tryz.call255 [(c282 n).e] [] [] [] (pD n)
def c252 (n:Nat):FF Tryz.prog 252 [.i .i64,.ws 0] q59 1 1 [⟨.ag q44,[],[],false⟩]:=funC Tryz.func252 Tryz.call252 [(c253 n).e,(c254 n).e,(c255 n).e] [] [] [] [0] (fE n)
def c256 (n:Nat):FF Tryz.prog 256 [.i .i64,.ws 0] q59 1 1 [⟨.ag q44,[],[],false⟩]:=funC Tryz.func256 Tryz.call256 [(c237 n).e,(c239 n).e,(c255 n).e] [] [] [] [0] (fp n)
def c283 (n:Nat):PF Tryz.prog 283 [.ag [.i .i64,.i .i64,.i .i64]] (.i .i64):=aL Tryz.func283 Tryz.call283 [(c242 n).e] [] [] [] (oz n)
def c258 (n:Nat):PF Tryz.prog 258 [.ag [.i .i64,.i .i64,.i .i64]] (.tp [.i .i64,.i .i64]):=aL Tryz.func258 Tryz.call258 [(c283 n).e,(c237 n).e] [] [] [] (pu n)
def c257 (n:Nat):FF Tryz.prog 257 [.i .i64,.ws 0] q59 1 1 [⟨.ag q44,[],[],false⟩]:=funC Tryz.func257 Tryz.call257 [(c258 n).e,(c255 n).e] [] [] [] [0] (fq n)
def c177 (n:Nat):PF Tryz.prog 177 q56 (.tp [.ag q44,.i .i64]):=aL Tryz.func177 Tryz.call177 [(c97 n).e,(c179 n).e,(c197 n).e,(c99 n),(c220 n).e,(c221 n).e,(c251 n).e,(c252 n).e,(c256 n).e,(c257 n).e] [] [] [] (fJ n)
def c259 (n:Nat):PF Tryz.prog 259 [.i .i8] (.b):=aL Tryz.func259 Tryz.call259 [] [] [] [] (mb n)
def c223 (n:Nat):PF Tryz.prog 223 [.i .i8,.i .i8] (.i .i64):=aL Tryz.func223 Tryz.call223 [(c259 n).e] [] [] [] (kM n)
def c260 (n:Nat):PF Tryz.prog 260 [.i .i64] (.b):=aL Tryz.func260 Tryz.call260 [] [] [] [] (jn n)
def c224 (n:Nat):PF Tryz.prog 224 [.i .i64,.i .i64] (.i .i64):=aL Tryz.func224 Tryz.call224 [(c260 n).e] [] [] [] (iu n)
def QX (n:Nat):LP Tryz.prog Tryz.f222.ntmps:=cY [] [] 0 (sb (acM [] [] Tryz.f222) 0) false ⟨[(3,.i .i64),(6,.ws 0),(7,.i .i64),(8,.i .i64)],q50,1,1,1,1⟩ [] [⟨.ret,⟨[(2,.i .i64)],[],1,1,1,1⟩⟩,⟨.exit 0,⟨[(3,.i .i64)],[],1,1,1,1⟩⟩] (qY n) n
def c222 (n:Nat):FF Tryz.prog 222 [.ws 0] q59 1 1 [⟨.i .i64,[],[],false⟩]:=funC Tryz.func222 Tryz.call222 [] [QX n] [] [] [0] (mO n)
def c178 (n:Nat):PF Tryz.prog 178 [.ag [.i .i8,.i .i64],.ag [.i .i8,.i .i64]] (.i .i64):=aL Tryz.func178 Tryz.call178 [(c223 n).e,(c224 n).e,(c222 n).e] [] [] [] (je n)
def c126 (n:Nat):PF Tryz.prog 126 [.ag q51,.ag q51] (.i .i64):=aL Tryz.func126 Tryz.call126 [(c127 n).e,(c177 n).e,(c178 n).e] [] [0] [] (f9 n)
def c225 (n:Nat):FF Tryz.prog 225 [.p 0 0] [.cells q19] 1 1 [⟨.b,[],[],false⟩]:=funC Tryz.func225 Tryz.call225 [] [] [] [] [0] (oP n)
def c229 (n:Nat):PF Tryz.prog 229 [.ag q27] (.b):=aL Tryz.func229 Tryz.call229 [(c61 n).e] [] [] [] (lz n)
def c230 (n:Nat):PF Tryz.prog 230 [.ag q27] (.b):=aL Tryz.func230 Tryz.call230 [(c97 n).e,(c229 n).e,(c221 n).e] [] [] [] (jY n)
def c227 (n:Nat):PF Tryz.prog 227 [.ag q27,.ag q27] (.b):=aL Tryz.func227 Tryz.call227 [(c230 n).e,(c221 n).e,(c177 n).e,(c178 n).e] [] [] [] (k7 n)
def c226 (n:Nat):FF Tryz.prog 226 [.p 0 0] [.cells q19] 1 1 [⟨.b,[],[],false⟩]:=funC Tryz.func226 Tryz.call226 [(c227 n).e] [] [] [] [0] (o6 n)
def c228 (n:Nat):FF Tryz.prog 228 q75 [.cells [.i .u8],.cells q19] 2 2 [⟨.b,[],[],false⟩]:=funC Tryz.func228 Tryz.call228 [(c229 n).e] [] [] [] [0,1] (oL n)
def c180 (n:Nat):FF Tryz.prog 180 [.sl 0 0 3 (some (.k 3))] [.cells [.i .i64,.fn 225 [.p 1 0],.i .i64,.fn 226 [.p 1 0],.i .i64,.fn 228 [.p 2 0,.p 1 0]],.cells q19,.cells [.i .u8]] 3 3 [⟨.i .i64,[],[],false⟩]:=funC Tryz.func180 Tryz.call180 [(c225 n).e,(c226 n).e,(c228 n).e] [] [0] [] [0,1,2] (dI n)
def c181 (n:Nat):PF Tryz.prog 181 [.ag q19,.i .u8] (.i .i64):=aL Tryz.func181 Tryz.call181 [(c97 n).e,(c180 n).e] [] [] [] (fR n)
def c182 (n:Nat):FF Tryz.prog 182 q75 [.cells q19,.cells q39,.rows q11] 3 3 [⟨.b,[],[],false⟩]:=funC Tryz.func182 Tryz.call182 [(c181 n).e] [] [] [] [0,1,2] (oN n)
def c184 (n:Nat):PF Tryz.prog 184 [.ag q19] (.b):=aL Tryz.func184 Tryz.call184 [(c230 n).e] [] [] [] (lI n)
def c183 (n:Nat):FF Tryz.prog 183 [.p 0 0,.p 1 0,.p 2 0] [.cells [.i .u8,.bd,.b,.s,.i .i64,.i .i64,.s,.s,.i .u8,.i .u8,.i .u8,.i .u8,.bd,.b,.s,.i .i64,.i .i64,.s,.s,.i .u8,.i .u8,.i .u8,.i .u8,.bd,.b,.s,.i .i64,.i .i64,.s,.s,.i .u8,.i .u8,.i .u8,.rs 21 3 0 .q (some .q),.b,.b],.cells [.i .i64],.cells q19,.rows q11] 4 4 [⟨.b,[],[],false⟩]:=funC Tryz.func183 Tryz.call183 [(c184 n).e] [] [] [] [0,1,2,3] (oe n)
def c185 (n:Nat):FF Tryz.prog 185 [.p 0 0,.p 1 0,.p 2 0,.p 3 0] [.cells [.i .u8,.bd,.b,.s,.i .i64,.i .i64,.s,.s,.i .u8,.i .u8,.i .u8,.i .u8,.bd,.b,.s,.i .i64,.i .i64,.s,.s,.i .u8,.i .u8,.i .u8,.i .u8,.bd,.b,.s,.i .i64,.i .i64,.s,.s,.i .u8,.i .u8,.i .u8,.rs 21 4 0 .q (some .q),.b,.b],.cells [.i .i64],.cells [.i .i64],.cells q19,.rows q11] 5 5 [⟨.b,[],[],false⟩]:=funC Tryz.func185 Tryz.call185 [(c184 n).e] [] [] [] [0,1,2,3,4] (oM n)
def c186 (n:Nat):FF Tryz.prog 186 q75 [.cells q39,.cells [.i .i64],.rows q11] 3 3 [⟨.b,[],[],false⟩]:=funC Tryz.func186 Tryz.call186 [] [] [] [] [0,1,2] (oq n)
def QG (n:Nat):FF Tryz.prog 180 [.sl 0 0 4 (some (.k 4))] [.cells [.i .i64,.fn 182 [.p 1 0,.p 2 0],.i .i64,.fn 183 [.p 2 0,.p 3 0,.p 1 0],.i .i64,.fn 185 [.p 2 0,.p 3 0,.p 4 0,.p 1 0],.i .i64,.fn 186 [.p 2 0,.p 4 0]],.cells q19,.cells [.i .u8,.bd,.b,.s,.i .i64,.i .i64,.s,.s,.i .u8,.i .u8,.i .u8,.i .u8,.bd,.b,.s,.i .i64,.i .i64,.s,.s,.i .u8,.i .u8,.i .u8,.i .u8,.bd,.b,.s,.i .i64,.i .i64,.s,.s,.i .u8,.i .u8,.i .u8,.rs 21 5 0 .q (some .q),.b,.b],.cells [.i .i64],.cells [.i .i64],.rows q11] 6 6 [⟨.i .i64,[],[],false⟩]:=funC Tryz.func180 Tryz.call180 [(c182 n).e,(c183 n).e,(c185 n).e,(c186 n).e] [] [0] [] [0,1,2,3,4,5] (kP n)
def Qe (n:Nat):List (FE Tryz.prog):=[(c181 n).e,(QG n).e]
def Q6 (n:Nat):LP Tryz.prog Tryz.f134.ntmps:=cY (Qe n) [] 0 (sb (acM [] [] Tryz.f134) 0) true ⟨[(1,.p 1 0),(4,.p 2 0),(13,.rs 21 0 0 .q (some .q)),(14,.i .i64),(15,.i .i64)],[(0,.rows q11),(1,.cells q20),(2,.cells [.i .i64])],3,1,1,1⟩ [] [⟨.ret,⟨[(2,.i .i64),(3,.i .i64)],[],1,1,1,1⟩⟩,⟨.exit 0,⟨[],[],1,1,1,1⟩⟩] (iZ n) n
def c134 (n:Nat):FF Tryz.prog 134 [.ag q20] [.rows q11] 1 1 [⟨.tp [.i .i64,.i .i64],[],[],false⟩]:=funC Tryz.func134 Tryz.call134 (Qe n) [Q6 n] [] [] [0] (kX n)
def c85 (n:Nat):FF Tryz.prog 85 [.ag q20] [.rows q11] 1 1 [⟨.tp [.i .i64,.i .i64],[],[],false⟩]:=funC Tryz.func85 Tryz.call85 [(c133 n).e,(c97 n).e,(c126 n).e,(c134 n).e] [] [] [] [0] (ga n)
def c74E (n:Nat):List (FE Tryz.prog):=[(c121 n).e,(c122 n).e,(c76 n).e,(c123 n).e,(c98 n).e,(c57 n).e,(c124 n).e,(c78 n).e,(c125 n).e,(c85 n).e]
def TT (n:Nat):LP Tryz.prog Tryz.f74.ntmps:=pL (c74E n) [] 1003 (sb (acM [] [3,16,17] Tryz.f74) 1003) true ⟨[(0,.p 0 0),(2,.p 1 0),(3,.p 2 0),(15,.b)],[(0,.cells q21),(1,.cells q28),(2,.cells [.ik .u8 3,.bk false,.bk false,.sk [],.ik .i64 0,.ik .i64 0,.sk [],.sk [],.ik .u8 0,.ik .u8 0,.ik .u8 0,.ik .u8 0,.bk false,.bk false,.sk [],.ik .i64 0,.ik .i64 0,.sk [],.sk [],.ik .u8 0,.ik .u8 0,.ik .u8 0,.ik .u8 0,.bk false,.bk false,.sk [],.ik .i64 0,.ik .i64 0,.sk [],.sk [],.ik .u8 0,.ik .u8 0,.ik .u8 0,.ws 4,.bk false,.bk false]),(3,.rows q11),(4,.rows q11)],5,1,0,1⟩ [⟨.nrm,⟨[(0,.p 0 0),(2,.p 1 0),(3,.p 2 0)],[(0,.cells q21),(1,.cells q28),(2,.cells [.i .u8,.bk false,.bk false,.sk [],.ik .i64 0,.ik .i64 0,.sk [],.sk [],.ik .u8 0,.ik .u8 0,.ik .u8 0,.ik .u8 0,.bk false,.bk false,.sk [],.ik .i64 0,.ik .i64 0,.sk [],.sk [],.ik .u8 0,.ik .u8 0,.ik .u8 0,.ik .u8 0,.bk false,.bk false,.sk [],.ik .i64 0,.ik .i64 0,.sk [],.sk [],.ik .u8 0,.ik .u8 0,.ik .u8 0,.ws 4,.bk false,.bk false]),(3,.rows q11),(4,.rows q11)],5,1,0,1⟩⟩] (lc n)
def Rq (n:Nat):LP Tryz.prog Tryz.f74.ntmps:=pL (c74E n) [] 1016 (sb (sb (acM [] [3,16,17] Tryz.f74) 0).body 1016) true ⟨q63,q16,7,1,0,1⟩ [⟨.nrm,q55⟩] (kr n)
def QQ (n:Nat):LP Tryz.prog Tryz.f74.ntmps:=pL (c74E n) [] 1017 (sb (sb (acM [] [3,16,17] Tryz.f74) 0).body 1017) true q55 [⟨.pan (.it 126 (.ag [.i .i64,.i .i64])),⟨[],q34,1,1,0,1⟩⟩,⟨.nrm,⟨q63,[(0,.cells q21),(1,.cells q29),(2,.cells q30),(3,.rows [.i .i64]),(4,.cells q19),(5,.rows q11),(6,.rows q11)],7,1,0,1⟩⟩] (kh n)
def TB (n:Nat):LP Tryz.prog Tryz.f74.ntmps:=cY (c74E n) [Rq n,QQ n] 0 (sb (acM [] [3,16,17] Tryz.f74) 0) true ⟨q73,[(0,.cells q21),(1,.cells [.ik .u8 0,.bk false,.bk false,.sk [],.ik .i64 0,.ik .i64 0,.sk [],.sk [],.ik .u8 0,.ik .u8 0,.ik .u8 0,.ik .u8 0,.bk false,.bk false,.sk [],.ik .i64 0,.ik .i64 0,.sk [],.sk [],.ik .u8 0,.ik .u8 0,.ik .u8 0,.ik .u8 0,.bk false,.bk false,.sk [],.ik .i64 0,.ik .i64 0,.sk [],.sk [],.ik .u8 0,.ik .u8 0,.ik .u8 0,.ws 4,.bk false,.bk false]),(2,.cells [.i .u8,.bk false,.bk false,.sk [],.ik .i64 0,.ik .i64 0,.sk [],.sk [],.ik .u8 0,.ik .u8 0,.ik .u8 0,.ik .u8 0,.bk false,.bk false,.sk [],.ik .i64 0,.ik .i64 0,.sk [],.sk [],.ik .u8 0,.ik .u8 0,.ik .u8 0,.ik .u8 0,.bk false,.bk false,.sk [],.ik .i64 0,.ik .i64 0,.sk [],.sk [],.ik .u8 0,.ik .u8 0,.ik .u8 0,.ws 5,.b,.bk false]),(3,.rows [.i .i64]),(4,.rows q11),(5,.rows q11)],6,1,0,1⟩ [.nilT 6 1000 [.i .i64]] [⟨.pan (.it 126 (.ag [.i .i64,.i .i64])),⟨[],q34,1,1,0,1⟩⟩,⟨.exit 0,⟨q73,[(0,.cells q21),(1,.cells [.i .u8,.bd,.b,.s,.i .i64,.i .i64,.s,.s,.i .u8,.i .u8,.i .u8,.i .u8,.bd,.b,.s,.i .i64,.i .i64,.s,.s,.i .u8,.i .u8,.i .u8,.i .u8,.bd,.b,.s,.i .i64,.i .i64,.s,.s,.i .u8,.i .u8,.i .u8,.ws 4,.b,.b]),(2,.cells [.i .u8,.bd,.b,.s,.i .i64,.i .i64,.s,.s,.i .u8,.i .u8,.i .u8,.i .u8,.bd,.b,.s,.i .i64,.i .i64,.s,.s,.i .u8,.i .u8,.i .u8,.i .u8,.bd,.b,.s,.i .i64,.i .i64,.s,.s,.i .u8,.i .u8,.i .u8,.ws 5,.b,.b]),(3,.rows [.i .i64]),(4,.rows q11),(5,.rows q11)],6,1,0,1⟩⟩] (eF n) n
def c74 (n:Nat):FF Tryz.prog 74 [.p 0 0] q53 0 1 [⟨.it 126 (.ag [.i .i64,.i .i64]),q34,[],true⟩,⟨.ag [.i .u8,.bd,.b,.s,.i .i64,.i .i64,.s,.s,.i .u8,.i .u8,.i .u8,.i .u8,.bd,.b,.s,.i .i64,.i .i64,.s,.s,.i .u8,.i .u8,.i .u8,.i .u8,.bd,.b,.s,.i .i64,.i .i64,.s,.s,.i .u8,.i .u8,.i .u8,.rs 21 1 0 .q (some .q),.b,.b],[(0,.cells q21),(1,.rows q11)],[1],false⟩]:=funC Tryz.func74 Tryz.call74 (c74E n) [TT n,TB n] [] [3,16,17] [0] (ll n)
def c75 (n:Nat):FF Tryz.prog 75 [.p 2 0,.i .i64] [.cells q21,.rows q11,.cells q37] 2 3 [⟨.tp [],[(2,.cells q37)],[],false⟩]:=funC Tryz.func75 Tryz.call75 [] [] [] [] [2,0,1] (eV n)
def Qm (n:Nat):FF Tryz.prog 75 [.p 2 0,.i .i64] [.cells q21,.rows q11,.cells q40] 2 3 [⟨.tp [],[(2,.cells q40)],[],false⟩]:=funC Tryz.func75 Tryz.call75 [] [] [] [] [2,0,1] (cn n)
def M3 (_n:Nat):Ent:=NP 59
theorem JA (n:Nat):fO Tryz.prog (M3 n):=ID Tryz.call59 λs c w h1 h2 h3=>Tryz.strings_TrimRight_laid s c w h1 h2 h3
def c59 (n:Nat):FE Tryz.prog:=libF (JA n)
def RZ (n:Nat):PF Tryz.prog 111 [.s,.sk [45]] (.b):=aL Tryz.func111 Tryz.call111 [] [] [] [] (ei n)
def c105 (n:Nat):PF Tryz.prog 105 [.s,.sk [45]] (.s):=aL Tryz.func105 Tryz.call105 [(RZ n).e] [] [] [] (eW n)
def c60 (n:Nat):PF Tryz.prog 60 [.s,.sk [45]] (.s):=aL Tryz.func60 Tryz.call60 [(c105 n).e] [] [] [] (gR n)
end
end Go.Sh
