/- Each function of the program computes its plain function: the certificates.
   Conditions: none. Printed by the bench tool gen.py. -/
import Derived.Test.YthemneooekobkaaGreatDoorAbsPat
import Derived.Test.YthemneooekobkaaGreatDoorHGa
import Derived.Test.YthemneooekobkaaGreatDoorHGb
import Derived.Test.YthemneooekobkaaGreatDoorHGe
set_option linter.unusedVariables false
set_option linter.unusedSimpArgs false
set_option maxRecDepth 100000
set_option maxHeartbeats 4000000
namespace Go.Sh
open Go.Abs Go.Proofs
noncomputable section
abbrev q30:List PV:=[.s,.i .i64]
abbrev q81:List PB:=[.cells q30]
abbrev q48:List (Nat×PB):=[(0,.cells q30)]
abbrev q85:List (Nat×PV):=[(4,.i .i64)]
abbrev q103:List PX:=[⟨.ret,⟨q85,[],1,1,1,1⟩⟩,⟨.exit 0,⟨[],[],1,1,1,1⟩⟩]
abbrev q96:List (Nat×PB):=[(1,.cells q30)]
abbrev q37:List PV:=[.b,.b,.s,.i .i64,.i .i64]
abbrev q99:List PV:=[.p 0 0,.p 1 0]
abbrev q22:List PV:=[.b,.b,.s,.i .i64,.i .i64,.s,.s,.i .u8,.i .u8,.i .u8]
abbrev q104:List PX:=[⟨.ret,⟨q85,[],1,0,0,0⟩⟩,⟨.exit 0,⟨[],[],1,0,0,0⟩⟩]
abbrev q97:List PV:=[.ai .u8 3,.i .i64]
abbrev q88:List PB:=[.cells [.fn 145 [.p 1 0]],.cells [.fn 1000144 [.p 3 0]],.cells q22,.cells q30]
abbrev q86:List (Nat×PB):=[(2,.cells q22),(3,.cells q30)]
abbrev q80:List PV:=[.ag q22]
abbrev q102:List (Nat×PV):=[(0,.s),(7,.s),(8,.i .i64),(9,.i .i64),(12,.i .i64)]
abbrev q106:List PV:=[.ag q37]
abbrev q61:List PV:=[.i .i8,.i .i64,.i .i8,.i .i64]
abbrev q113:PSt:=⟨[(0,.s),(1,.i .i64),(5,.i .i64)],[],0,0,0,0⟩
abbrev q74:List (Nat×PB):=[(0,.rows [.i .i64])]
abbrev q35:List PV:=[.b,.b,.s,.i .i64,.i .i64,.s,.s,.i .u8,.i .u8,.i .u8,.ws 0,.ws 1]
abbrev q87:List PB:=[.rows [.i .i64]]
abbrev q94:PSt:=⟨[(2,.i .i64)],[],1,0,0,0⟩
abbrev q69:PSt:=⟨[(0,.s),(1,.i .i64),(2,.b),(8,.i .u8),(9,.i .u8),(10,.p 0 0),(11,.p 1 0),(12,.i .i64)],[(0,.ints .u8 18),(1,.ints .u8 18)],2,0,0,0⟩
abbrev q98:List PB:=[.rows [.i .i64],.rows [.i .i64]]
abbrev q64:List (Nat×PB):=[(0,.rows [.i .i64]),(1,.rows [.i .i64]),(2,.cells q35),(3,.cells [.i .i64,.i .i64,.i .i64]),(4,.cells [.b]),(5,.cells [.ik .i64 0,.ik .i64 0,.ik .i64 0])]
abbrev q16:List (Nat×PB):=[(0,.rows [.i .i64]),(1,.rows [.i .i64]),(2,.cells q35),(3,.cells [.i .i64,.i .i64,.i .i64]),(4,.cells [.b]),(5,.cells [.i .i64,.i .i64,.i .i64]),(62,.rows [.i .i64]),(63,.rows [.i .i64])]
abbrev q19:List (Nat×PB):=[(0,.rows [.i .i64]),(1,.rows [.i .i64]),(2,.cells q35),(3,.cells [.i .i64,.i .i64,.i .i64]),(4,.cells [.b]),(5,.cells [.i .i64,.i .i64,.i .i64])]
abbrev q58:PSt:=⟨[(3,.p 2 0),(4,.p 3 0),(5,.p 4 0),(6,.p 5 0),(8,.i .i64),(9,.ws 62),(10,.ws 63),(11,.fn 202 [.p 4 0]),(12,.i .i64),(15,.i .i64),(16,.b),(17,.i .i64),(53,.ws 62),(54,.i .i64),(55,.i .i64)],q16,64,2,2,2⟩
abbrev q59:PSt:=⟨[(3,.p 2 0),(4,.p 3 0),(5,.p 4 0),(6,.p 5 0),(8,.i .i64),(9,.ws 0),(10,.ws 1),(11,.fn 202 [.p 4 0]),(12,.i .i64),(15,.i .i64),(16,.b),(17,.i .i64),(53,.ws 0),(54,.i .i64),(55,.i .i64)],q19,62,2,2,2⟩
abbrev q76:List (Nat×PV):=[(6,.p 5 0),(7,.b)]
abbrev q43:List (Nat×PB):=[(5,.cells [.i .i64,.i .i64,.i .i64])]
abbrev q107:PSt:=⟨q76,q43,64,2,2,2⟩
abbrev q34:PSt:=⟨[(3,.p 2 0),(4,.p 3 0),(5,.p 4 0),(6,.p 5 0),(8,.i .i64),(9,.ws 62),(10,.ws 63),(11,.fn 202 [.p 4 0]),(12,.i .i64),(53,.ws 62),(54,.i .i64),(55,.i .i64)],q16,64,2,2,2⟩
abbrev q108:PSt:=⟨q76,q43,62,2,2,2⟩
abbrev q36:PSt:=⟨[(3,.p 2 0),(4,.p 3 0),(5,.p 4 0),(6,.p 5 0),(8,.i .i64),(9,.ws 0),(10,.ws 1),(11,.fn 202 [.p 4 0]),(12,.i .i64),(53,.ws 0),(54,.i .i64),(55,.i .i64)],q19,62,2,2,2⟩
abbrev q11:List Lf:=[.bo,.bo,.s,.i .i64,.i .i64,.s,.s,.i .u8,.i .u8,.i .u8,.bo,.bo,.bo,.s,.i .i64,.i .i64,.s,.s,.i .u8,.i .u8,.i .u8]
abbrev q66:List PB:=[.rows q11]
abbrev q20:List PV:=[.i .u8,.bd,.b,.s,.i .i64,.i .i64,.s,.s,.i .u8,.i .u8,.i .u8,.i .u8,.bd,.b,.s,.i .i64,.i .i64,.s,.s,.i .u8,.i .u8,.i .u8,.i .u8,.bd,.b,.s,.i .i64,.i .i64,.s,.s,.i .u8,.i .u8,.i .u8,.rs 21 0 0 .q (some .q),.b,.b]
abbrev q38:List PV:=[.i .u8,.b,.b,.s,.i .i64,.i .i64,.s,.s,.i .u8,.i .u8,.i .u8]
abbrev q21:List PV:=[.bd,.b,.s,.i .i64,.i .i64,.s,.s,.i .u8,.i .u8,.i .u8,.b,.bd,.b,.s,.i .i64,.i .i64,.s,.s,.i .u8,.i .u8,.i .u8]
abbrev q33:List PV:=[.bd,.b,.s,.i .i64,.i .i64,.s,.s,.i .u8,.i .u8,.i .u8]
abbrev q53:List PV:=[.i .u8,.bd,.b,.s,.i .i64,.i .i64,.s,.s,.i .u8,.i .u8,.i .u8,.i .u8,.bd,.b,.s,.i .i64,.i .i64,.s,.s,.i .u8,.i .u8,.i .u8,.i .u8,.bd,.b,.s,.i .i64,.i .i64,.s,.s,.i .u8,.i .u8,.i .u8,.rs 21 2 0 .q (some .q),.b,.b]
abbrev q65:List PV:=[.i .i64,.fn 182 [.p 1 0,.p 2 0],.i .i64,.fn 183 [.p 2 0,.p 3 0,.p 1 0],.i .i64,.fn 185 [.p 2 0,.p 3 0,.p 4 0,.p 1 0],.i .i64,.fn 186 [.p 2 0,.p 4 0]]
abbrev q67:List PX:=[⟨.ret,⟨[(2,.i .i64),(3,.i .i64)],[],1,1,1,1⟩⟩,⟨.exit 0,⟨[],[],1,1,1,1⟩⟩]
abbrev q15:List PV:=[.ik .u8 0,.bk false,.bk false,.sk [],.ik .i64 0,.ik .i64 0,.sk [],.sk [],.ik .u8 0,.ik .u8 0,.ik .u8 0,.ik .u8 0,.bk false,.bk false,.sk [],.ik .i64 0,.ik .i64 0,.sk [],.sk [],.ik .u8 0,.ik .u8 0,.ik .u8 0,.ik .u8 0,.bk false,.bk false,.sk [],.ik .i64 0,.ik .i64 0,.sk [],.sk [],.ik .u8 0,.ik .u8 0,.ik .u8 0,.ws 3,.bk false,.bk false]
abbrev q90:List (Nat×PV):=[(0,.p 0 0),(2,.p 1 0),(3,.p 2 0),(5,.s),(6,.ws 3),(7,.p 4 0),(9,.i .i64)]
abbrev q26:List PV:=[.ik .u8 0,.bk false,.bk false,.sk [],.ik .i64 0,.ik .i64 0,.sk [],.sk [],.ik .u8 0,.ik .u8 0,.ik .u8 0,.ik .u8 0,.bk false,.bk false,.sk [],.ik .i64 0,.ik .i64 0,.sk [],.sk [],.ik .u8 0,.ik .u8 0,.ik .u8 0,.ik .u8 0,.bk false,.bk false,.sk [],.ik .i64 0,.ik .i64 0,.sk [],.sk [],.ik .u8 0,.ik .u8 0,.ik .u8 0,.ws 5,.bk false,.bk false]
abbrev q42:List PV:=[.i .u8,.bk false,.bk false,.sk [],.ik .i64 0,.ik .i64 0,.sk [],.sk [],.ik .u8 0,.ik .u8 0,.ik .u8 0,.ik .u8 0,.bk false,.bk false,.sk [],.ik .i64 0,.ik .i64 0,.sk [],.sk [],.ik .u8 0,.ik .u8 0,.ik .u8 0,.ik .u8 0,.bk false,.bk false,.sk [],.ik .i64 0,.ik .i64 0,.sk [],.sk [],.ik .u8 0,.ik .u8 0,.ik .u8 0,.ws 6,.b,.bk false]
abbrev q24:List (Nat×PB):=[(0,.cells q30),(1,.cells q26),(2,.cells q42),(3,.rows [.i .i64]),(4,.cells [.bd,.b,.s,.i .i64,.i .i64,.s,.s,.i .u8,.i .u8,.i .u8,.bk false,.bk false,.bk false,.sk [],.ik .i64 0,.ik .i64 0,.sk [],.sk [],.ik .u8 0,.ik .u8 0,.ik .u8 0]),(5,.rows q11),(6,.rows q11)]
abbrev q83:PSt:=⟨[(0,.p 0 0),(2,.p 1 0),(3,.p 2 0),(5,.s),(6,.ws 3),(7,.p 4 0),(9,.i .i64),(49,.b)],q24,7,1,0,1⟩
abbrev q105:List (Nat×PV):=[(0,.p 0 0),(2,.p 1 0),(3,.p 2 0),(5,.s),(6,.ws 3)]
abbrev q13:List PV:=[.ik .u8 0,.bk false,.bk false,.sk [],.ik .i64 0,.ik .i64 0,.sk [],.sk [],.ik .u8 0,.ik .u8 0,.ik .u8 0,.ik .u8 0,.bk false,.bk false,.sk [],.ik .i64 0,.ik .i64 0,.sk [],.sk [],.ik .u8 0,.ik .u8 0,.ik .u8 0,.ik .u8 0,.bk false,.bk false,.sk [],.ik .i64 0,.ik .i64 0,.sk [],.sk [],.ik .u8 0,.ik .u8 0,.ik .u8 0,.ws 4,.bk false,.bk false]
abbrev q18:List PV:=[.i .u8,.bd,.b,.s,.i .i64,.i .i64,.s,.s,.i .u8,.i .u8,.i .u8,.i .u8,.bd,.b,.s,.i .i64,.i .i64,.s,.s,.i .u8,.i .u8,.i .u8,.i .u8,.bd,.b,.s,.i .i64,.i .i64,.s,.s,.i .u8,.i .u8,.i .u8,.ws 4,.b,.b]
abbrev q28:List PV:=[.i .u8,.bd,.b,.s,.i .i64,.i .i64,.s,.s,.i .u8,.i .u8,.i .u8,.i .u8,.bd,.b,.s,.i .i64,.i .i64,.s,.s,.i .u8,.i .u8,.i .u8,.i .u8,.bd,.b,.s,.i .i64,.i .i64,.s,.s,.i .u8,.i .u8,.i .u8,.ws 5,.b,.b]
abbrev q51:List PV:=[.p 0 0,.i .u8,.bd,.b,.s,.i .i64,.i .i64,.s,.s,.i .u8,.i .u8,.i .u8,.i .u8,.bd,.b,.s,.i .i64,.i .i64,.s,.s,.i .u8,.i .u8,.i .u8,.i .u8,.bd,.b,.s,.i .i64,.i .i64,.s,.s,.i .u8,.i .u8,.i .u8,.rs 21 1 0 .q (some .q),.b,.b,.i .i64]
abbrev q56:List PV:=[.p 0 0,.i .u8,.bd,.b,.s,.i .i64,.i .i64,.s,.s,.i .u8,.i .u8,.i .u8,.i .u8,.bd,.b,.s,.i .i64,.i .i64,.s,.s,.i .u8,.i .u8,.i .u8,.i .u8,.bd,.b,.s,.i .i64,.i .i64,.s,.s,.i .u8,.i .u8,.i .u8,.ws 1,.b,.b,.i .i64]
def c120 (n:Nat):FF Tryz.prog 120 [.p 0 0] q81 1 1 [⟨.s,[],[],false⟩]:=funC Tryz.func120 Tryz.call120 [] [] [] [] [0] (dn n)
def c73 (n:Nat):FF Tryz.prog 73 [.p 0 0] q81 1 1 [⟨.tp [.i .u8,.b],[],[],false⟩]:=funC Tryz.func73 Tryz.call73 [(c120 n).e] [] [] [] [0] (bJ n)
def c123 (n:Nat):FF Tryz.prog 123 [.p 0 0] q81 1 1 [⟨.i .i64,[],[],false⟩]:=funC Tryz.func123 Tryz.call123 [] [] [] [] [0] (bC n)
def c98 (n:Nat):FF Tryz.prog 98 [.p 0 0,.i .i64,.i .i64] q81 1 1 [⟨.it 126 (.ag [.i .i64,.i .i64]),[],[],true⟩]:=funC Tryz.func98 Tryz.call98 [] [] [] [] [0] (bj n)
def c250 (_n:Nat):FE Tryz.prog:=libF (IG Tryz.func250 (by kernel_rfl) (by kernel_rfl) (by kernel_rfl) (by kernel_rfl))
def c219 (n:Nat):PF Tryz.prog 219 [.s,.i .u8] (.i .i64):=aE Tryz.func219 Tryz.call219 [(c250 n)] [] [] [] (cw n)
def c176 (n:Nat):PF Tryz.prog 176 [.s,.i .u8] (.i .i64):=aE Tryz.func176 Tryz.call176 [(c219 n).e] [] [] [] (cP n)
def c121 (n:Nat):FF Tryz.prog 121 [.p 0 0,.s] q81 0 1 [⟨.it 126 (.ag [.i .i64,.i .i64]),q48,[],true⟩,⟨.i .u8,q48,[],false⟩]:=funC Tryz.func121 Tryz.call121 [(c73 n).e,(c123 n).e,(c98 n).e,(c176 n).e] [] [] [] [0] (eP n)
def c122 (n:Nat):PF Tryz.prog 122 [.i .u8] (.tp [.s,.s]):=aE Tryz.func122 Tryz.call122 [] [] [] [] (ej n)
def c111 (n:Nat):PF Tryz.prog 111 [.s,.s] (.b):=aE Tryz.func111 Tryz.call111 [] [] [] [] (iQ n)
def c65 (n:Nat):PF Tryz.prog 65 [.s,.s] (.b):=aE Tryz.func65 Tryz.call65 [(c111 n).e] [] [] [] (mO n)
def c124 (n:Nat):FF Tryz.prog 124 [.p 0 0,.s] q81 1 1 [⟨.b,[],[],false⟩]:=funC Tryz.func124 Tryz.call124 [(c120 n).e,(c65 n).e] [] [] [] [0] (iz n)
def c76 (n:Nat):FF Tryz.prog 76 [.p 0 0,.s] q81 0 1 [⟨.b,q48,[],false⟩]:=funC Tryz.func76 Tryz.call76 [(c124 n).e] [] [] [] [0] (aN n)
def c193 (n:Nat):PF Tryz.prog 193 [] (.ag [.s,.s,.s,.s]):=aE Tryz.func193 Tryz.call193 [] [] [] [] (qB n)
def Qn (n:Nat):LP Tryz.prog Tryz.f107.ntmps:=cD [] [] 0 (sb (acM [] [] Tryz.f107) 0) false ⟨[(0,.sl 0 0 4 (some (.k 4))),(1,.s),(7,.i .i64),(8,.i .i64)],[(0,.cells [.s,.s,.s,.s])],1,1,1,1⟩ [] q103 (gA n) n
def c107 (n:Nat):FF Tryz.prog 107 [.sl 0 0 4 (some (.k 4)),.s] [.cells [.s,.s,.s,.s]] 1 1 [⟨.i .i64,[],[],false⟩]:=funC Tryz.func107 Tryz.call107 [] [Qn n] [] [] [0] (iJ n)
def c143 (n:Nat):PF Tryz.prog 143 [.i .u8] (.tp [.i .u8,.b]):=aE Tryz.func143 Tryz.call143 [(c193 n).e,(c107 n).e] [] [] [] (Ff n)
def c142 (n:Nat):FF Tryz.prog 142 [.p 0 0] [.cells [.p 1 0],.cells q30] 1 2 [⟨.it 126 (.ag [.i .i64,.i .i64]),q96,[],true⟩,⟨.i .u8,q96,[],false⟩]:=funC Tryz.func142 Tryz.call142 [(c73 n).e,(c143 n).e,(c121 n).e] [] [] [] [0,1] (dM n)
def Qs (n:Nat):List (FE Tryz.prog):=[(c123 n).e,(c73 n).e,(c176 n).e,(c98 n).e]
def Rn (n:Nat):LP Tryz.prog Tryz.f144.ntmps:=cD (Qs n) [] 0 (sb (acM [] [] Tryz.f144) 0) false ⟨[(0,.p 0 0),(1,.s),(2,.i .i64),(3,.i .i64),(9,.i .i64),(10,.i .u8),(11,.b)],q48,1,1,0,1⟩ [] [⟨.exit 0,⟨[(0,.p 0 0),(2,.i .i64),(9,.i .i64)],q48,1,1,0,1⟩⟩] (kj n) n
def c144 (n:Nat):FF Tryz.prog 144 [.p 0 0,.s,.i .i64,.i .i64] q81 0 1 [⟨.it 126 (.ag [.i .i64,.i .i64]),q48,[],true⟩,⟨.s,q48,[],false⟩]:=funC Tryz.func144 Tryz.call144 (Qs n) [Rn n] [] [] [0] (eB n)
noncomputable def Kv (_n:Nat):Ent:=OL 99 263
theorem G9 (n:Nat):ek Tryz.prog (Kv n):=LF Tryz.call99 (λs n hl h w=>(Tryz.strconv_Atoi s n hl h w).mono λe w' ⟨h1,t,h2⟩=>⟨h1,h2▸oq _ _ _⟩) (λs hl h w hg=>Ll s hl h w hg)
def c99 (n:Nat):FE Tryz.prog:=libF (G9 n)
def c194 (n:Nat):FF Tryz.prog 194 [.s,.p 0 0] [.cells [.p 1 0],.cells q30] 1 2 [⟨.i .i64,q96,[],false⟩,⟨.it 126 (.ag [.i .i64,.i .i64]),q96,[],true⟩]:=funC Tryz.func194 Tryz.call194 [(c76 n).e,(c121 n).e,(c144 n).e,(c99 n)] [] [] [] [0,1] (jb n)
def c147 (n:Nat):FF Tryz.prog 147 [.p 0 0] q81 0 1 [⟨.it 126 (.ag [.i .i64,.i .i64]),q48,[],true⟩,⟨.ag q37,q48,[],false⟩]:=funC Tryz.func147 Tryz.call147 [(c76 n).e,(c121 n).e,(c144 n).e,(c194 n).e] [] [] [] [0] (pV n)
def c146 (n:Nat):FF Tryz.prog 146 q99 [.cells [.p 2 0],.cells q22,.cells q30] 1 3 [⟨.it 126 (.ag [.i .i64,.i .i64]),[(1,.cells q22),(2,.cells q30)],[],true⟩,⟨.tp [],[(1,.cells q22),(2,.cells q30)],[],false⟩]:=funC Tryz.func146 Tryz.call146 [(c147 n).e] [] [] [] [0,1,2] (og n)
def c192 (n:Nat):PF Tryz.prog 192 [.i .u8] (.i .i64):=aE Tryz.func192 Tryz.call192 [] [] [] [] (gp n)
def Qm (n:Nat):List (FE Tryz.prog):=[(c192 n).e]
def QE (n:Nat):LP Tryz.prog Tryz.f153.ntmps:=cD (Qm n) [] 0 (sb (acM [] [] Tryz.f153) 0) false ⟨[(1,.i .i64),(13,.ai .u8 3),(14,.i .i64)],[],1,0,0,0⟩ [] q104 (fV n) n
def c153 (n:Nat):PF Tryz.prog 153 q97 (.i .i64):=aE Tryz.func153 Tryz.call153 (Qm n) [QE n] [] [] (dH n)
def c195 (n:Nat):FF Tryz.prog 195 [.i .i64,.p 2 0,.p 0 0,.p 1 0] [.ints .u8 3,.ints .u8 3,.cells [.i .u8]] 2 3 [⟨.i .u8,[(2,.cells [.i .u8])],[],false⟩]:=funC Tryz.func195 Tryz.call195 [] [] [] [] [2,0,1] (qh n)
def Qv (n:Nat):List (FE Tryz.prog):=[(c153 n).e,(c195 n).e]
def P1 (n:Nat):LP Tryz.prog Tryz.f150.ntmps:=cD (Qv n) [] 1 (sb (acM [0] [] Tryz.f150) 1) false ⟨[(6,.p 2 0),(12,.fn 195 [.p 5 0,.p 1 0,.p 0 0]),(13,.p 6 0),(14,.i .i64)],[(0,.ints .u8 3),(1,.ints .u8 3),(2,.ints .u8 3),(5,.cells [.i .u8]),(6,.ints .u8 3)],7,0,0,0⟩ [] [⟨.exit 2,⟨[(6,.p 2 0),(13,.p 6 0)],[(2,.ints .u8 3),(6,.ints .u8 3)],7,0,0,0⟩⟩] (oU n) n
def c150 (n:Nat):PF Tryz.prog 150 [.ai .u8 3,.ai .u8 3,.i .i64] (.tp q97):=aE Tryz.func150 Tryz.call150 (Qv n) [P1 n] [0] [] (jt n)
def c145 (n:Nat):FF Tryz.prog 145 [.p 0 0] [.cells [.fn 1000144 [.p 1 0]],.cells q30] 1 2 [⟨.it 126 (.ag [.i .i64,.i .i64]),q96,[],true⟩,⟨.s,q96,[],false⟩]:=funC Tryz.func145 Tryz.call145 [(c144 n).e] [] [] [] [0,1] (lp n)
def c148 (n:Nat):FF Tryz.prog 148 [.p 0 0,.p 2 0] q88 2 4 [⟨.it 126 (.ag [.i .i64,.i .i64]),q86,[],true⟩,⟨.tp [],q86,[],false⟩]:=funC Tryz.func148 Tryz.call148 [(c145 n).e] [] [] [] [0,2,1,3] (oi n)
def c149 (n:Nat):FF Tryz.prog 149 [.p 0 0,.p 2 0] q88 2 4 [⟨.it 126 (.ag [.i .i64,.i .i64]),q86,[],true⟩,⟨.tp [],q86,[],false⟩]:=funC Tryz.func149 Tryz.call149 [(c145 n).e] [] [] [] [0,2,1,3] (oh n)
def c95 (n:Nat):FF Tryz.prog 95 [.p 0 0] q81 0 1 [⟨.it 126 (.ag [.i .i64,.i .i64]),q48,[],true⟩,⟨.tp [.ag q22,.ai .i64 3],q48,[],false⟩]:=funC Tryz.func95 Tryz.call95 [(c142 n).e,(c123 n).e,(c146 n).e,(c150 n).e,(c76 n).e,(c148 n).e,(c149 n).e] [] [0] [] [0] (pW n)
def c100 (n:Nat):PF Tryz.prog 100 [.i .i64] (.i .i64):=aE Tryz.func100 Tryz.call100 [] [] [] [] (da n)
theorem pure_seasons_Check (n:Nat):∀a r,da n a=some r->lC Tryz.prog 100 (argP [.i .i64] a) (encP (.i .i64) r):=λa r h=>(c100 n).ok a r h
def c58 (n:Nat):PF Tryz.prog 58 q80 (.tp [.i .i64,.b]):=aE Tryz.func58 Tryz.call58 [(c99 n),(c100 n).e] [] [] [] (bR n)
def c216 (n:Nat):PF Tryz.prog 216 [.i .i32] (.b):=aE Tryz.func216 Tryz.call216 [] [] [] [] (dj n)
def Jz (n:Nat):List (FE Tryz.prog):=[(c176 n).e,(c216 n).e]
def PR (n:Nat):LP Tryz.prog Tryz.f170.ntmps:=cD (Jz n) [] 0 (sb (acM [] [] Tryz.f170) 0) false ⟨[(175,.p 0 0)],[(0,.iter)],1,0,0,0⟩ [] [⟨.ret,⟨q85,[],1,0,0,0⟩⟩,⟨.exit 9,⟨[],[],1,0,0,0⟩⟩] (dh n) n
def QS (n:Nat):LP Tryz.prog Tryz.f170.ntmps:=cD (Jz n) [] 2 (sb (sb (acM [] [] Tryz.f170) 1).body 2) false ⟨q102,[],128,0,0,0⟩ [] [⟨.exit 3,⟨[(8,.i .i64),(9,.i .i64)],[],128,0,0,0⟩⟩] (lB n) n
def PC (n:Nat):LP Tryz.prog Tryz.f170.ntmps:=cD (Jz n) [] 2 (sb (sb (acM [] [] Tryz.f170) 1).body 2) false ⟨q102,[],56,0,0,0⟩ [] [⟨.exit 3,⟨[(8,.i .i64),(9,.i .i64)],[],56,0,0,0⟩⟩] (lj n) n
def Rm (n:Nat):LP Tryz.prog Tryz.f170.ntmps:=cD (Jz n) [altL (QS n) (PC n) rfl] 1 (sb (acM [] [] Tryz.f170) 1) false ⟨[(0,.s),(7,.s),(8,.i .i64),(9,.i .i64)],[],0,0,0,0⟩ [] [⟨.ret,⟨q85,[],0,0,0,0⟩⟩,⟨.exit 1,⟨[],[],0,0,0,0⟩⟩] (dc n) n
def c170 (n:Nat):PF Tryz.prog 170 [.s,.i .i32] (.i .i64):=aE Tryz.func170 Tryz.call170 (Jz n) [PR n,Rm n,noL 3 (sb (acM [] [] Tryz.f170) 3)] [] [] (dp n)
def c160 (n:Nat):PF Tryz.prog 160 [.s,.i .i32] (.b):=aE Tryz.func160 Tryz.call160 [(c170 n).e] [] [] [] (de n)
def c262 (n:Nat):FF Tryz.prog 262 [.i .i32,.p 0 0] [.cells [.s]] 1 1 [⟨.b,[],[],false⟩]:=funC Tryz.func262 Tryz.call262 [(c160 n).e] [] [] [] [0] (ja n)
def P7 (n:Nat):List (FE Tryz.prog):=[(c262 n).e]
def Ss (n:Nat):LP Tryz.prog Tryz.f284.ntmps:=cD (P7 n) [] 0 (sb (acM [] [] Tryz.f284) 0) false ⟨[(1,.fn 262 [.p 0 0]),(2,.b),(10,.p 1 0)],[(0,.cells [.s]),(1,.iter)],2,1,1,1⟩ [] [⟨.ret,⟨[(6,.i .i64)],[],2,1,1,1⟩⟩,⟨.exit 0,⟨[],[],2,1,1,1⟩⟩] (ck n) n
def c284 (n:Nat):FF Tryz.prog 284 [.s,.fn 262 [.p 0 0],.b] [.cells [.s]] 1 1 [⟨.i .i64,[],[],false⟩]:=funC Tryz.func284 Tryz.call284 (P7 n) [Ss n] [] [] [0] (kv n)
def c261 (n:Nat):FF Tryz.prog 261 [.s,.fn 262 [.p 0 0]] [.cells [.s]] 1 1 [⟨.i .i64,[],[],false⟩]:=funC Tryz.func261 Tryz.call261 [(c284 n).e] [] [] [] [0] (ky n)
def c231 (n:Nat):PF Tryz.prog 231 [.s,.s] (.b):=aE Tryz.func231 Tryz.call231 [(c261 n).e] [] [] [] (fe n)
def Qf (n:Nat):LP Tryz.prog Tryz.f101.ntmps:=cD [] [] 0 (sb (acM [] [] Tryz.f101) 0) false ⟨[(0,.s),(1,.i .u8)],[],0,0,0,0⟩ [] [⟨.exit 0,⟨[(0,.s)],[],0,0,0,0⟩⟩] (cO n) n
def c101 (n:Nat):PF Tryz.prog 101 [.s,.i .u8] (.s):=aE Tryz.func101 Tryz.call101 [] [Qf n] [] [] (eU n)
def Qi (n:Nat):LP Tryz.prog Tryz.f263.ntmps:=cD [] [] 0 (sb (acM [] [] Tryz.f263) 0) false ⟨[(0,.s),(1,.i .u8)],[],0,0,0,0⟩ [] [⟨.exit 0,⟨[(0,.s)],[],0,0,0,0⟩⟩] (dW n) n
def c263 (n:Nat):PF Tryz.prog 263 [.s,.i .u8] (.s):=aE Tryz.func263 Tryz.call263 [] [Qi n] [] [] (fw n)
def c232 (n:Nat):PF Tryz.prog 232 [.s,.sk [48]] (.s):=aE Tryz.func232 Tryz.call232 [(c101 n).e,(c263 n).e] [] [] [] (mu n)
def c211 (n:Nat):PF Tryz.prog 211 [.s,.sk [88]] (.i .i64):=aE Tryz.func211 Tryz.call211 [(c219 n).e] [noL 0 (sb (acM [] [] Tryz.f211) 0)] [] [] (hS n)
def c161 (n:Nat):PF Tryz.prog 161 [.s,.sk [88]] (.i .i64):=aE Tryz.func161 Tryz.call161 [(c211 n).e] [] [] [] (lE n)
def c106 (n:Nat):PF Tryz.prog 106 [.s,.sk [88]] (.b):=aE Tryz.func106 Tryz.call106 [(c161 n).e] [] [] [] (gE n)
def c196 (n:Nat):PF Tryz.prog 196 q106 (.b):=aE Tryz.func196 Tryz.call196 [(c106 n).e] [] [] [] (cJ n)
noncomputable def Ju (_n:Nat):Ent:=HF 267
theorem FV (n:Nat):ek Tryz.prog (Ju n):=H7 Tryz.call267 λs h v hv w=>(Tryz.strconv_ParseInt_10_at64_ok s h v hv w).mono λe w' ⟨h1,h2⟩=>⟨h1,h2.elim (λh=>h▸RowKit.Below.refl _ _) (λ⟨t,h⟩=>h▸oq _ _ _)⟩
def c267 (n:Nat):FE Tryz.prog:=libF (FV n)
def Rj (n:Nat):LP Tryz.prog Tryz.f268.ntmps:=cD [] [] 0 (sb (acM [] [] Tryz.f268) 0) false ⟨[(4,.i .i64),(9,.i .i64),(10,.i .i64)],[],0,0,0,0⟩ [] [⟨.exit 0,⟨q85,[],0,0,0,0⟩⟩] (jz n) n
def c268 (n:Nat):PF Tryz.prog 268 [.i .i64] (.tp [.i .i64,.i .i64]):=aE Tryz.func268 Tryz.call268 [] [Rj n] [] [] (m7 n)
def c290 (n:Nat):PF Tryz.prog 290 [.i .i64] (.i .u64):=aE Tryz.func290 Tryz.call290 [] [] [] [] (ru n)
def c289 (n:Nat):PF Tryz.prog 289 [.i .u64,.i .u64] (.tp [.i .u64,.i .u64]):=aE Tryz.func289 Tryz.call289 [] [] [] [] (jx n)
def c291 (n:Nat):PF Tryz.prog 291 [.i .u64,.b] (.tp [.i .i64,.i .i64]):=aE Tryz.func291 Tryz.call291 [] [] [] [] (qD n)
def c269 (n:Nat):PF Tryz.prog 269 [.i .i64,.i .i64] (.tp [.i .i64,.i .i64]):=aE Tryz.func269 Tryz.call269 [(c290 n).e,(c289 n).e,(c291 n).e] [] [] [] (tK n)
def c235 (n:Nat):PF Tryz.prog 235 q106 (.tp [.i .i64,.i .i64]):=aE Tryz.func235 Tryz.call235 [(c267 n),(c268 n).e,(c269 n).e] [] [] [] (dw n)
def c233 (n:Nat):PF Tryz.prog 233 q106 (.b):=aE Tryz.func233 Tryz.call233 [(c231 n).e,(c235 n).e] [] [] [] (aU n)
def c189 (n:Nat):PF Tryz.prog 189 q106 (.i .i64):=aE Tryz.func189 Tryz.call189 [(c231 n).e,(c232 n).e,(c196 n).e,(c233 n).e] [] [] [] (cf n)
theorem pure_yearforms_Check (n:Nat):∀a r,cf n a.1 a.2.1 a.2.2.1 a.2.2.2.1 a.2.2.2.2=some r->lC Tryz.prog 189 (argP q106 a) (encP (.i .i64) r):=λa r h=>(c189 n).ok a r h
def c197 (n:Nat):PF Tryz.prog 197 q106 (.tp [.i .i64,.i .i64]):=aE Tryz.func197 Tryz.call197 [(c189 n).e,(c196 n).e,(c235 n).e] [] [] [] (dF n)
noncomputable def wL (l:List V):Option (Int):=match l with
 | [.i .i64 a0]=>some (a0)
 | _=>none
noncomputable def Jq (n:Nat):Ent:=Aw 236 wL (λa=>eh n a) (λr=>.tp [.i .i64 r.1,.i .i64 r.2.1,.i .i64 r.2.2])
theorem FR (n:Nat):ek Tryz.prog (Jq n):=rj (arg:=λa=>[.i .i64 a]) Tryz.call236 (λl a h=>by
 unfold wL at h
 split at h
 ·cases h;rfl
 ·cases h) (λa=>rfl) (λa r h=>qF n (λx r h=>pure_seasons_Check n x r h) a r h)
def c236 (n:Nat):FE Tryz.prog:=libF (FR n)
def c275 (n:Nat):PF Tryz.prog 275 [.i .i64] (.i .i64):=aE Tryz.func275 Tryz.call275 [] [] [] [] (ig n)
def c270 (n:Nat):PF Tryz.prog 270 [.i .i64,.i .i64] (.i .i64):=aE Tryz.func270 Tryz.call270 [(c275 n).e] [] [] [] (ju n)
def c294 (n:Nat):PF Tryz.prog 294 [.i .i64,.i .i64] (.tp [.i .i64,.i .i64]):=aE Tryz.func294 Tryz.call294 [] [] [] [] (DG n)
def c273 (n:Nat):PF Tryz.prog 273 [.i .i64,.i .i64] (.tp [.i .i64,.i .i64]):=aE Tryz.func273 Tryz.call273 [(c294 n).e] [] [] [] (kI n)
theorem pure_ints_Div (n:Nat):∀a r,kI n a.1 a.2=some r->lC Tryz.prog 273 (argP [.i .i64,.i .i64] a) (encP (.tp [.i .i64,.i .i64]) r):=λa r h=>(c273 n).ok a r h
noncomputable def xo (l:List V):Option (Int):=match l with
 | [.i .i64 a0]=>some (a0)
 | _=>none
noncomputable def It (n:Nat):Ent:=Aw 300 xo (λa=>ef n a) (λr=>.i .i64 r)
theorem Fv (n:Nat):ek Tryz.prog (It n):=rj (arg:=λa=>[.i .i64 a]) Tryz.call300 (λl a h=>by
 unfold xo at h
 split at h
 ·cases h;rfl
 ·cases h) (λa=>rfl) (λa r h=>sR n (λx y r h=>pure_ints_Div n (x,y) r h) a r h)
def c300 (n:Nat):FE Tryz.prog:=libF (Fv n)
def c281 (n:Nat):PF Tryz.prog 281 [.i .i64] (.i .i64):=aE Tryz.func281 Tryz.call281 [(c300 n)] [] [] [] (ku n)
def c253 (n:Nat):PF Tryz.prog 253 [.i .i64] (.tp [.i .i64,.i .i64]):=aE Tryz.func253 Tryz.call253 [(c275 n).e,(c281 n).e] [] [] [] (kx n)
def c292 (n:Nat):PF Tryz.prog 292 [.i .i64] (.tp [.b,.i .i64]):=aE Tryz.func292 Tryz.call292 [(c275 n).e,(c300 n)] [] [] [] (jp n)
theorem pure_years_Leap (n:Nat):∀a r,jp n a=some r->lC Tryz.prog 292 (argP [.i .i64] a) (encP (.tp [.b,.i .i64]) r):=λa r h=>(c292 n).ok a r h
noncomputable def wJ (l:List V):Option (Int×Int):=match l with
 | [.i .i64 a0,.i .i64 a1]=>some (a0,a1)
 | _=>none
noncomputable def Gs (n:Nat):Ent:=Aw 271 wJ (λa=>dC n a.1 a.2) (λr=>.i .i64 r)
theorem Ge (n:Nat):ek Tryz.prog (Gs n):=rj (arg:=λa=>[.i .i64 a.1,.i .i64 a.2]) Tryz.call271 (λl a h=>by
 unfold wJ at h
 split at h
 ·cases h;rfl
 ·cases h) (λa=>rfl) (λa r h=>qV n (λx r h=>pure_years_Leap n x r h) a.1 a.2 r h)
def c271 (n:Nat):FE Tryz.prog:=libF (Ge n)
def PP (n:Nat):List (FE Tryz.prog):=[(c270 n).e,(c253 n).e,(c271 n)]
def Q8 (n:Nat):LP Tryz.prog Tryz.f237.ntmps:=cD (PP n) [] 0 (sb (acM [] [] Tryz.f237) 0) false ⟨[(0,.i .i64),(7,.i .i64),(22,.i .i64),(23,.i .i64)],[],0,0,0,0⟩ [] [⟨.exit 0,⟨[(7,.i .i64)],[],0,0,0,0⟩⟩] (bu n) n
def c237 (n:Nat):PF Tryz.prog 237 [.i .i64,.i .i64] (.tp [.i .i64,.i .i64]):=aE Tryz.func237 Tryz.call237 (PP n) [Q8 n] [] [] (ei n)
noncomputable def wU (l:List V):Option (Int×Int):=match l with
 | [.i .i64 a0,.i .i64 a1]=>some (a0,a1)
 | _=>none
noncomputable def HB (n:Nat):Ent:=Aw 272 wU (λa=>pC n a.1 a.2) (λr=>.tp [.i .i64 r.1,.i .i64 r.2])
theorem FG (n:Nat):ek Tryz.prog (HB n):=rj (arg:=λa=>[.i .i64 a.1,.i .i64 a.2]) Tryz.call272 (λl a h=>by
 unfold wU at h
 split at h
 ·cases h;rfl
 ·cases h) (λa=>rfl) (λa r h=>yT n a.1 a.2 r h)
def c272 (n:Nat):FE Tryz.prog:=libF (FG n)
def c274 (n:Nat):PF Tryz.prog 274 [.i .i64,.i .i64] (.tp [.i .i64,.i .i64]):=aE Tryz.func274 Tryz.call274 [] [] [] [] (ua n)
def c238 (n:Nat):PF Tryz.prog 238 [.i .i64,.i .i64,.i .i64] (.tp [.i .i64,.i .i64,.i .i64]):=aE Tryz.func238 Tryz.call238 [(c270 n).e,(c272 n),(c273 n).e,(c274 n).e,(c275 n).e] [] [] [] (na n)
def c239 (n:Nat):PF Tryz.prog 239 [.i .i64,.i .i64] (.tp [.i .i64,.i .i64]):=aE Tryz.func239 Tryz.call239 [(c237 n).e,(c271 n)] [] [] [] (fQ n)
def c198 (n:Nat):PF Tryz.prog 198 [.i .i64,.i .i64] (.tp [.ag q61,.i .i64]):=aE Tryz.func198 Tryz.call198 [(c236 n),(c237 n).e,(c238 n).e,(c239 n).e] [] [] [] (gq n)
def c151 (n:Nat):PF Tryz.prog 151 q80 (.b):=aE Tryz.func151 Tryz.call151 [(c189 n).e,(c58 n).e,(c196 n).e,(c197 n).e,(c198 n).e] [] [] [] (ew n)
def Ql (n:Nat):LP Tryz.prog Tryz.f152.ntmps:=cD [] [] 0 (sb (acM [] [] Tryz.f152) 0) false q113 [] [⟨.ret,⟨[(4,.b)],[],0,0,0,0⟩⟩,⟨.exit 0,⟨[],[],0,0,0,0⟩⟩] (cL n) n
def c152 (n:Nat):PF Tryz.prog 152 q30 (.b):=aE Tryz.func152 Tryz.call152 [] [Ql n] [] [] (cK n)
def RO (n:Nat):LP Tryz.prog Tryz.f135.ntmps:=cD [] [] 0 (sb (acM [] [] Tryz.f135) 0) false ⟨[(3,.i .i64),(10,.ag [.s,.s]),(11,.i .i64)],[],1,0,0,0⟩ [] [⟨.exit 0,⟨[(3,.i .i64)],[],1,0,0,0⟩⟩] (bI n) n
def c135 (n:Nat):PF Tryz.prog 135 q80 (.i .i64):=aE Tryz.func135 Tryz.call135 [] [RO n] [] [] (bn n)
def c96 (n:Nat):PF Tryz.prog 96 q80 (.i .i64):=aE Tryz.func96 Tryz.call96 [(c58 n).e,(c151 n).e,(c152 n).e,(c135 n).e,(c153 n).e] [] [] [] (ib n)
def c240 (n:Nat):PF Tryz.prog 240 q30 (.b):=aE Tryz.func240 Tryz.call240 [] [] [] [] (jG n)
def QH (n:Nat):List (FE Tryz.prog):=[(c240 n).e]
def QG (n:Nat):LP Tryz.prog Tryz.f199.ntmps:=cD (QH n) [] 0 (sb (acM [] [] Tryz.f199) 0) false ⟨[(0,.s),(5,.ws 0),(7,.i .i64),(8,.i .i64)],q74,1,0,0,0⟩ [.nilT 5 0 [.i .i64]] [⟨.exit 0,⟨[(5,.ws 0)],q74,1,0,0,0⟩⟩] (eJ n) n
def c199 (n:Nat):FF Tryz.prog 199 q30 [] 0 0 [⟨.ws 0,q74,[0],false⟩]:=funC Tryz.func199 Tryz.call199 (QH n) [QG n] [] [] [] (dU n)
def c154 (n:Nat):FF Tryz.prog 154 q80 [] 0 0 [⟨.ag q35,[(0,.rows [.i .i64]),(1,.rows [.i .i64])],[0,1],false⟩]:=funC Tryz.func154 Tryz.call154 [(c58 n).e,(c199 n).e] [] [] [] [] (nD n)
def c200 (n:Nat):FF Tryz.prog 200 [.ws 0] q87 1 1 [⟨.ws 1,[(1,.rows [.i .i64])],[1],false⟩]:=funC Tryz.func200 Tryz.call200 [] [] [] [] [0] (iL n)
def Q6 (n:Nat):LP Tryz.prog Tryz.f201.ntmps:=cD [] [] 0 (sb (acM [] [] Tryz.f201) 0) false ⟨[(0,.ws 0),(2,.i .i64),(3,.i .i64)],q74,1,1,0,1⟩ [] [⟨.exit 0,⟨[],q74,1,1,0,1⟩⟩] (iP n) n
def c201 (n:Nat):FF Tryz.prog 201 [.ws 0] q87 0 1 [⟨.tp [],q74,[],false⟩]:=funC Tryz.func201 Tryz.call201 [] [Q6 n] [] [] [0] (gK n)
def Ry (n:Nat):LP Tryz.prog Tryz.f295.ntmps:=cD [] [] 0 (sb (acM [] [] Tryz.f295) 0) false ⟨[(0,.s),(9,.p 0 0)],[(0,.iter)],1,0,0,0⟩ [] [⟨.ret,q94⟩,⟨.exit 0,⟨[(0,.s)],[],1,0,0,0⟩⟩] (gH n) n
def c295 (n:Nat):PF Tryz.prog 295 [.s] (.i .i64):=aE Tryz.func295 Tryz.call295 [] [Ry n] [] [] (jg n)
def QX (n:Nat):LP Tryz.prog Tryz.f306.ntmps:=cD [] [] 0 (sb (acM [] [] Tryz.f306) 0) false ⟨[(1,.i .u8),(5,.i .i64),(9,.ws 0),(10,.i .i64),(11,.i .i64)],[(0,.rows [.i .u8])],1,0,0,0⟩ [] [⟨.exit 0,⟨[(5,.i .i64)],[],1,0,0,0⟩⟩] (fN n) n
def c306 (n:Nat):PF Tryz.prog 306 [.s,.i .u8] (.i .i64):=aE Tryz.func306 Tryz.call306 [] [QX n] [] [] (kS n)
def c296 (n:Nat):PF Tryz.prog 296 [.s] (.tp [.i .i64,.i .i64]):=aE Tryz.func296 Tryz.call296 [(c295 n).e,(c306 n).e] [] [] [] (nQ n)
def c307 (n:Nat):PF Tryz.prog 307 [.i .i64] (.i .i64):=aE Tryz.func307 Tryz.call307 [(c268 n).e] [] [] [] (nL n)
def c297 (n:Nat):PF Tryz.prog 297 q30 (.b):=aE Tryz.func297 Tryz.call297 [(c307 n).e] [] [] [] (kW n)
def Rk (n:Nat):LP Tryz.prog Tryz.f308.ntmps:=cD [] [] 0 (sb (acM [] [] Tryz.f308) 0) false ⟨[(1,.i .i64),(4,.p 0 0),(5,.i .i64)],[(0,.ints .u8 18)],1,0,0,0⟩ [] [⟨.exit 0,⟨[(4,.p 0 0)],[(0,.ints .u8 18)],1,0,0,0⟩⟩] (gJ n) n
def c308 (n:Nat):PF Tryz.prog 308 q30 (.ai .u8 18):=aE Tryz.func308 Tryz.call308 [] [Rk n] [] [] (kB n)
def c309 (n:Nat):PF Tryz.prog 309 [.s,.ai .u8 18] (.i .i64):=aE Tryz.func309 Tryz.call309 [(c306 n).e] [] [] [] (fi n)
def KV (n:Nat):List (FE Tryz.prog):=[(c308 n).e,(c309 n).e]
def QT (n:Nat):LP Tryz.prog Tryz.f298.ntmps:=cD (KV n) [] 0 (sb (acM [] [] Tryz.f298) 0) false q69 [] [⟨.exit 0,q69⟩] (eC n) n
def Qb (n:Nat):LP Tryz.prog Tryz.f298.ntmps:=cD (KV n) [] 1 (sb (acM [] [] Tryz.f298) 1) false ⟨[(0,.s),(2,.b),(8,.i .u8),(9,.i .u8),(10,.p 0 0),(11,.p 1 0),(12,.i .i64)],[(0,.ints .u8 18),(1,.ints .u8 18)],74,0,0,0⟩ [] [⟨.ret,⟨[(6,.i .i64),(7,.i .i64)],[],74,0,0,0⟩⟩,⟨.exit 2,⟨[(0,.s),(2,.b),(8,.i .u8),(11,.p 1 0),(12,.i .i64)],[(1,.ints .u8 18)],74,0,0,0⟩⟩] (bZ n) n
def Rh (n:Nat):LP Tryz.prog Tryz.f298.ntmps:=cD (KV n) [] 2 (sb (acM [] [] Tryz.f298) 2) false ⟨[(0,.s),(8,.i .u8),(11,.p 1 0),(12,.i .i64)],[(1,.ints .u8 18)],74,0,0,0⟩ [] [⟨.exit 5,⟨[(0,.s),(11,.p 1 0)],[(1,.ints .u8 18)],74,0,0,0⟩⟩] (bi n) n
def c298 (n:Nat):PF Tryz.prog 298 [.s,.i .i64,.b] (.tp [.i .i64,.i .i64]):=aE Tryz.func298 Tryz.call298 (KV n) [QT n,Qb n,Rh n] [] [] (cR n)
def c276 (n:Nat):PF Tryz.prog 276 q30 (.tp [.i .i64,.i .i64]):=aE Tryz.func276 Tryz.call276 [(c295 n).e,(c296 n).e,(c297 n).e,(c298 n).e] [] [] [] (pH n)
def c299 (n:Nat):PF Tryz.prog 299 [.s] (.tp [.i .i64,.i .i64]):=aE Tryz.func299 Tryz.call299 [(c295 n).e,(c306 n).e] [] [] [] (kL n)
def c277 (n:Nat):PF Tryz.prog 277 q30 (.tp [.i .i64,.i .i64]):=aE Tryz.func277 Tryz.call277 [(c295 n).e,(c297 n).e,(c299 n).e,(c298 n).e] [] [] [] (pO n)
def c241 (n:Nat):PF Tryz.prog 241 [.s,.i .i64,.b,.i .i64] (.tp [.i .i64,.b]):=aE Tryz.func241 Tryz.call241 [(c276 n).e,(c277 n).e] [] [] [] (en n)
def c203 (n:Nat):FF Tryz.prog 203 [.ag q35,.i .i64,.b] q98 2 2 [⟨.tp [.i .i64,.b],[],[],false⟩]:=funC Tryz.func203 Tryz.call203 [(c196 n).e,(c197 n).e,(c241 n).e] [] [] [] [0,1] (bW n)
def c202 (n:Nat):FF Tryz.prog 202 [.i .i64,.i .i64,.p 0 0] [.cells [.b]] 1 1 [⟨.b,[],[],false⟩]:=funC Tryz.func202 Tryz.call202 [] [] [] [] [0] (cn n)
def c242 (n:Nat):PF Tryz.prog 242 [.i .i64,.i .i64] (.tp [.i .i64,.i .i64]):=aE Tryz.func242 Tryz.call242 [(c270 n).e,(c271 n)] [] [] [] (mP n)
def c204 (n:Nat):FF Tryz.prog 204 [.ag q35,.i .i64,.i .i64] q98 2 2 [⟨.i .i64,[],[],false⟩]:=funC Tryz.func204 Tryz.call204 [(c242 n).e] [] [] [] [0,1] (dQ n)
def pR (n:Nat):List (FE Tryz.prog):=[(c200 n).e,(c201 n).e,(c203 n).e,(c202 n).e,(c204 n).e]
def Rr (n:Nat):LP Tryz.prog Tryz.f155.ntmps:=dY (pR n) [] 1003 (sb (acM [] [3,17,20,23,30] Tryz.f155) 1003) false ⟨[(3,.p 2 0),(4,.p 3 0),(5,.p 4 0),(6,.p 5 0),(8,.ik .i64 1),(9,.ws 0),(10,.ws 1),(25,.b)],q64,62,2,2,2⟩ [⟨.nrm,⟨[(3,.p 2 0),(4,.p 3 0),(5,.p 4 0),(6,.p 5 0),(8,.ik .i64 (-1)),(9,.ws 62),(10,.ws 63)],[(0,.rows [.i .i64]),(1,.rows [.i .i64]),(2,.cells q35),(3,.cells [.i .i64,.i .i64,.i .i64]),(4,.cells [.b]),(5,.cells [.ik .i64 0,.ik .i64 0,.ik .i64 0]),(62,.rows [.i .i64]),(63,.rows [.i .i64])],64,2,2,2⟩⟩,⟨.nrm,⟨[(3,.p 2 0),(4,.p 3 0),(5,.p 4 0),(6,.p 5 0),(8,.ik .i64 1),(9,.ws 0),(10,.ws 1)],q64,62,2,2,2⟩⟩] (ii n)
def Jl (n:Nat):LP Tryz.prog Tryz.f155.ntmps:=dY (pR n) [] 1020 (sb (sb (sb (sb (acM [] [3,17,20,23,30] Tryz.f155) 0).body 1).body 1017) 1020) false ⟨[(3,.p 2 0),(4,.p 3 0),(5,.p 4 0),(6,.p 5 0),(8,.i .i64),(9,.ws 62),(10,.ws 63),(11,.fn 202 [.p 4 0]),(12,.i .i64),(15,.i .i64),(16,.b),(53,.ws 62),(54,.i .i64),(55,.i .i64)],q16,64,2,2,2⟩ [⟨.nrm,⟨[(3,.p 2 0),(4,.p 3 0),(5,.p 4 0),(6,.p 5 0),(8,.i .i64),(9,.ws 62),(10,.ws 63),(11,.fn 202 [.p 4 0]),(12,.i .i64),(15,.i .i64),(16,.b),(53,.ws 62),(54,.i .i64),(55,.i .i64),(76,.b)],q16,64,2,2,2⟩⟩] (kh n)
def DK (n:Nat):LP Tryz.prog Tryz.f155.ntmps:=dY (pR n) [] 1020 (sb (sb (sb (sb (acM [] [3,17,20,23,30] Tryz.f155) 0).body 1).body 1017) 1020) false ⟨[(3,.p 2 0),(4,.p 3 0),(5,.p 4 0),(6,.p 5 0),(8,.i .i64),(9,.ws 0),(10,.ws 1),(11,.fn 202 [.p 4 0]),(12,.i .i64),(15,.i .i64),(16,.b),(53,.ws 0),(54,.i .i64),(55,.i .i64)],q19,62,2,2,2⟩ [⟨.nrm,⟨[(3,.p 2 0),(4,.p 3 0),(5,.p 4 0),(6,.p 5 0),(8,.i .i64),(9,.ws 0),(10,.ws 1),(11,.fn 202 [.p 4 0]),(12,.i .i64),(15,.i .i64),(16,.b),(53,.ws 0),(54,.i .i64),(55,.i .i64),(76,.b)],q19,62,2,2,2⟩⟩] (dZ n)
def Hw (n:Nat):LP Tryz.prog Tryz.f155.ntmps:=dY (pR n) [] 1023 (sb (sb (sb (sb (acM [] [3,17,20,23,30] Tryz.f155) 0).body 1).body 1017) 1023) false q58 [⟨.nrm,q58⟩] (kl n)
def Dx (n:Nat):LP Tryz.prog Tryz.f155.ntmps:=dY (pR n) [] 1023 (sb (sb (sb (sb (acM [] [3,17,20,23,30] Tryz.f155) 0).body 1).body 1017) 1023) false q59 [⟨.nrm,q59⟩] (ec n)
def Io (n:Nat):LP Tryz.prog Tryz.f155.ntmps:=dY (pR n) [] 1030 (sb (sb (sb (sb (sb (acM [] [3,17,20,23,30] Tryz.f155) 0).body 1).body 1017) 2).body 1030) false ⟨[(3,.p 2 0),(4,.p 3 0),(5,.p 4 0),(6,.p 5 0),(8,.i .i64),(9,.ws 62),(10,.ws 63),(11,.fn 202 [.p 4 0]),(12,.i .i64),(15,.i .i64),(16,.b),(17,.i .i64),(19,.i .i64),(53,.ws 62),(54,.i .i64),(55,.i .i64),(94,.ws 63),(95,.i .i64),(96,.i .i64)],q16,64,2,2,2⟩ [⟨.nrm,⟨[(3,.p 2 0),(4,.p 3 0),(5,.p 4 0),(6,.p 5 0),(8,.i .i64),(9,.ws 62),(10,.ws 63),(11,.fn 202 [.p 4 0]),(12,.i .i64),(15,.i .i64),(16,.b),(17,.i .i64),(19,.i .i64),(53,.ws 62),(54,.i .i64),(55,.i .i64),(94,.ws 63),(95,.i .i64),(96,.i .i64),(119,.b)],q16,64,2,2,2⟩⟩] (ka n)
def DO (n:Nat):LP Tryz.prog Tryz.f155.ntmps:=dY (pR n) [] 1030 (sb (sb (sb (sb (sb (acM [] [3,17,20,23,30] Tryz.f155) 0).body 1).body 1017) 2).body 1030) false ⟨[(3,.p 2 0),(4,.p 3 0),(5,.p 4 0),(6,.p 5 0),(8,.i .i64),(9,.ws 0),(10,.ws 1),(11,.fn 202 [.p 4 0]),(12,.i .i64),(15,.i .i64),(16,.b),(17,.i .i64),(19,.i .i64),(53,.ws 0),(54,.i .i64),(55,.i .i64),(94,.ws 1),(95,.i .i64),(96,.i .i64)],q19,62,2,2,2⟩ [⟨.nrm,⟨[(3,.p 2 0),(4,.p 3 0),(5,.p 4 0),(6,.p 5 0),(8,.i .i64),(9,.ws 0),(10,.ws 1),(11,.fn 202 [.p 4 0]),(12,.i .i64),(15,.i .i64),(16,.b),(17,.i .i64),(19,.i .i64),(53,.ws 0),(54,.i .i64),(55,.i .i64),(94,.ws 1),(95,.i .i64),(96,.i .i64),(119,.b)],q19,62,2,2,2⟩⟩] (gg n)
def MX (n:Nat):LP Tryz.prog Tryz.f155.ntmps:=cD (pR n) [altL (Io n) (DO n) rfl] 2 (sb (sb (sb (sb (acM [] [3,17,20,23,30] Tryz.f155) 0).body 1).body 1017) 2) false ⟨[(3,.p 2 0),(4,.p 3 0),(5,.p 4 0),(6,.p 5 0),(8,.i .i64),(9,.ws 62),(10,.ws 63),(11,.fn 202 [.p 4 0]),(12,.i .i64),(15,.i .i64),(16,.b),(17,.i .i64),(53,.ws 62),(54,.i .i64),(55,.i .i64),(94,.ws 63),(95,.i .i64),(96,.i .i64)],q16,64,2,2,2⟩ [] [⟨.ret,q107⟩,⟨.exit 4,q34⟩] (kZ n) n
def Gq (n:Nat):LP Tryz.prog Tryz.f155.ntmps:=cD (pR n) [altL (Io n) (DO n) rfl] 2 (sb (sb (sb (sb (acM [] [3,17,20,23,30] Tryz.f155) 0).body 1).body 1017) 2) false ⟨[(3,.p 2 0),(4,.p 3 0),(5,.p 4 0),(6,.p 5 0),(8,.i .i64),(9,.ws 0),(10,.ws 1),(11,.fn 202 [.p 4 0]),(12,.i .i64),(15,.i .i64),(16,.b),(17,.i .i64),(53,.ws 0),(54,.i .i64),(55,.i .i64),(94,.ws 1),(95,.i .i64),(96,.i .i64)],q19,62,2,2,2⟩ [] [⟨.ret,q108⟩,⟨.exit 4,q36⟩] (bv n) n
def Ha (n:Nat):LP Tryz.prog Tryz.f155.ntmps:=dY (pR n) [altL (Jl n) (DK n) rfl,altL (Hw n) (Dx n) rfl,altL (MX n) (Gq n) rfl] 1017 (sb (sb (sb (acM [] [3,17,20,23,30] Tryz.f155) 0).body 1).body 1017) false q34 [⟨.nrm,q34⟩,⟨.ret,q107⟩] (kg n)
def D2 (n:Nat):LP Tryz.prog Tryz.f155.ntmps:=dY (pR n) [altL (Jl n) (DK n) rfl,altL (Hw n) (Dx n) rfl,altL (MX n) (Gq n) rfl] 1017 (sb (sb (sb (acM [] [3,17,20,23,30] Tryz.f155) 0).body 1).body 1017) false q36 [⟨.nrm,q36⟩,⟨.ret,q108⟩] (f8 n)
def Nx (n:Nat):LP Tryz.prog Tryz.f155.ntmps:=cD (pR n) [altL (Ha n) (D2 n) rfl] 1 (sb (sb (acM [] [3,17,20,23,30] Tryz.f155) 0).body 1) false q34 [] [⟨.ret,q107⟩,⟨.exit 2,⟨[(3,.p 2 0),(4,.p 3 0),(5,.p 4 0),(6,.p 5 0),(8,.i .i64),(9,.ws 62),(10,.ws 63),(11,.fn 202 [.p 4 0]),(12,.i .i64)],q16,64,2,2,2⟩⟩] (li n) n
def G5 (n:Nat):LP Tryz.prog Tryz.f155.ntmps:=cD (pR n) [altL (Ha n) (D2 n) rfl] 1 (sb (sb (acM [] [3,17,20,23,30] Tryz.f155) 0).body 1) false q36 [] [⟨.ret,q108⟩,⟨.exit 2,⟨[(3,.p 2 0),(4,.p 3 0),(5,.p 4 0),(6,.p 5 0),(8,.i .i64),(9,.ws 0),(10,.ws 1),(11,.fn 202 [.p 4 0]),(12,.i .i64)],q19,62,2,2,2⟩⟩] (bV n) n
def P8 (n:Nat):LP Tryz.prog Tryz.f155.ntmps:=cD (pR n) [altL (Nx n) (G5 n) rfl] 0 (sb (acM [] [3,17,20,23,30] Tryz.f155) 0) false ⟨[(3,.p 2 0),(4,.p 3 0),(5,.p 4 0),(6,.p 5 0),(8,.i .i64),(9,.ws 62),(10,.ws 63),(11,.fn 202 [.p 4 0]),(12,.i .i64),(13,.b)],q16,64,2,2,2⟩ [] [⟨.ret,q107⟩,⟨.exit 0,⟨[(6,.p 5 0)],q43,64,2,2,2⟩⟩] (ll n) n
def Og (n:Nat):LP Tryz.prog Tryz.f155.ntmps:=cD (pR n) [altL (Nx n) (G5 n) rfl] 0 (sb (acM [] [3,17,20,23,30] Tryz.f155) 0) false ⟨[(3,.p 2 0),(4,.p 3 0),(5,.p 4 0),(6,.p 5 0),(8,.i .i64),(9,.ws 0),(10,.ws 1),(11,.fn 202 [.p 4 0]),(12,.i .i64),(13,.b)],q19,62,2,2,2⟩ [] [⟨.ret,q108⟩,⟨.exit 0,⟨[(6,.p 5 0)],q43,62,2,2,2⟩⟩] (ct n) n
def c155 (n:Nat):FF Tryz.prog 155 [.ag q35,.ag [.i .i64,.i .i64,.i .i64],.b] q98 2 2 [⟨.tp [.ag [.i .i64,.i .i64,.i .i64],.b],[],[],false⟩]:=funC Tryz.func155 Tryz.call155 (pR n) [Rr n,altL (P8 n) (Og n) rfl] [] [3,17,20,23,30] [0,1] (gU n)
def c97 (n:Nat):PF Tryz.prog 97 q80 (.i .i64):=aE Tryz.func97 Tryz.call97 [(c96 n).e,(c154 n).e,(c155 n).e] [] [] [] (bp n)
def c57 (n:Nat):FF Tryz.prog 57 [.p 0 0] q81 0 1 [⟨.it 126 (.ag [.i .i64,.i .i64]),q48,[],true⟩,⟨.tp [.ag q22,.i .i64],q48,[],false⟩]:=funC Tryz.func57 Tryz.call57 [(c95 n).e,(c97 n).e,(c98 n).e] [] [] [] [0] (lR n)
def c78E (n:Nat):List (FE Tryz.prog):=[(c76 n).e,(c120 n).e,(c123 n).e,(c98 n).e]
def S1 (n:Nat):LP Tryz.prog Tryz.f78.ntmps:=cD (c78E n) [] 0 (sb (acM [] [] Tryz.f78) 0) false ⟨[(0,.p 0 0),(1,.s),(4,.i .i64),(5,.s)],q48,1,1,0,1⟩ [] [⟨.exit 0,⟨[(0,.p 0 0),(4,.i .i64)],q48,1,1,0,1⟩⟩] (ks n) n
def c78 (n:Nat):FF Tryz.prog 78 [.p 0 0,.s] q81 0 1 [⟨.tp [],q48,[],false⟩,⟨.it 126 (.ag [.i .i64,.i .i64]),q48,[],true⟩]:=funC Tryz.func78 Tryz.call78 (c78E n) [S1 n] [] [] [0] (fY n)
def c125 (n:Nat):FF Tryz.prog 125 [.ws 0] q66 1 1 [⟨.rs 21 0 0 .q (some .q),[],[],false⟩]:=funC Tryz.func125 Tryz.call125 [] [] [] [] [0] (gB n)
def c133 (n:Nat):FF Tryz.prog 133 [.ag q20] q66 1 1 [⟨.b,[],[],false⟩]:=funC Tryz.func133 Tryz.call133 [] [] [] [] [0] (qg n)
def c61 (n:Nat):PF Tryz.prog 61 q80 (.b):=aE Tryz.func61 Tryz.call61 [(c106 n).e] [] [] [] (dP n)
def c179 (n:Nat):PF Tryz.prog 179 q80 (.b):=aE Tryz.func179 Tryz.call179 [(c61 n).e] [] [] [] (kV n)
def c127 (n:Nat):PF Tryz.prog 127 [.ag q38] (.i .i64):=aE Tryz.func127 Tryz.call127 [(c97 n).e,(c179 n).e] [] [] [] (g9 n)
def c220 (n:Nat):FF Tryz.prog 220 [] [] 0 0 [⟨.mp 0,[(0,.mp .u8 [(0,251),(1,252),(2,256),(3,257)])],[0],false⟩]:=funC Tryz.func220 Tryz.call220 [] [] [] [] [] (hZ n)
def c221 (n:Nat):PF Tryz.prog 221 q80 (.i .u8):=aE Tryz.func221 Tryz.call221 [(c58 n).e] [] [] [] (aZ n)
def c251 (n:Nat):FF Tryz.prog 251 [.i .i64,.ws 0] q87 1 1 [⟨.ag q61,[],[],false⟩]:=funC Tryz.func251 Tryz.call251 [(c198 n).e] [] [] [] [0] (eW n)
def c254 (n:Nat):PF Tryz.prog 254 [.i .i64] (.tp [.i .i64,.i .i64]):=aE Tryz.func254 Tryz.call254 [(c275 n).e,(c281 n).e] [] [] [] (rN n)
def c282 (n:Nat):PF Tryz.prog 282 [.i .i64] (.ag [.i .i8,.i .i64]):=aE Tryz.func282 Tryz.call282 [] [] [] [] (BH n)
def c255 (n:Nat):PF Tryz.prog 255 [.i .i64,.i .i64] (.ag q61):=aE Tryz.func255 Tryz.call255 [(c282 n).e] [] [] [] (pA n)
def c252 (n:Nat):FF Tryz.prog 252 [.i .i64,.ws 0] q87 1 1 [⟨.ag q61,[],[],false⟩]:=funC Tryz.func252 Tryz.call252 [(c253 n).e,(c254 n).e,(c255 n).e] [] [] [] [0] (fh n)
def c256 (n:Nat):FF Tryz.prog 256 [.i .i64,.ws 0] q87 1 1 [⟨.ag q61,[],[],false⟩]:=funC Tryz.func256 Tryz.call256 [(c237 n).e,(c239 n).e,(c255 n).e] [] [] [] [0] (eX n)
def c283 (n:Nat):PF Tryz.prog 283 [.ag [.i .i64,.i .i64,.i .i64]] (.i .i64):=aE Tryz.func283 Tryz.call283 [(c242 n).e] [] [] [] (ox n)
def c258 (n:Nat):PF Tryz.prog 258 [.ag [.i .i64,.i .i64,.i .i64]] (.tp [.i .i64,.i .i64]):=aE Tryz.func258 Tryz.call258 [(c283 n).e,(c237 n).e] [] [] [] (pI n)
def c257 (n:Nat):FF Tryz.prog 257 [.i .i64,.ws 0] q87 1 1 [⟨.ag q61,[],[],false⟩]:=funC Tryz.func257 Tryz.call257 [(c258 n).e,(c255 n).e] [] [] [] [0] (eZ n)
def c177 (n:Nat):PF Tryz.prog 177 q80 (.tp [.ag q61,.i .i64]):=aE Tryz.func177 Tryz.call177 [(c97 n).e,(c179 n).e,(c197 n).e,(c99 n),(c220 n).e,(c221 n).e,(c251 n).e,(c252 n).e,(c256 n).e,(c257 n).e] [] [] [] (fb n)
def c259 (n:Nat):PF Tryz.prog 259 [.i .i8] (.b):=aE Tryz.func259 Tryz.call259 [] [] [] [] (mE n)
def c223 (n:Nat):PF Tryz.prog 223 [.i .i8,.i .i8] (.i .i64):=aE Tryz.func223 Tryz.call223 [(c259 n).e] [] [] [] (ln n)
def c260 (n:Nat):PF Tryz.prog 260 [.i .i64] (.b):=aE Tryz.func260 Tryz.call260 [] [] [] [] (jN n)
def c224 (n:Nat):PF Tryz.prog 224 [.i .i64,.i .i64] (.i .i64):=aE Tryz.func224 Tryz.call224 [(c260 n).e] [] [] [] (iw n)
def PU (n:Nat):LP Tryz.prog Tryz.f222.ntmps:=cD [] [] 0 (sb (acM [] [] Tryz.f222) 0) false ⟨[(3,.i .i64),(6,.ws 0),(7,.i .i64),(8,.i .i64)],q74,1,1,1,1⟩ [] [⟨.ret,⟨[(2,.i .i64)],[],1,1,1,1⟩⟩,⟨.exit 0,⟨[(3,.i .i64)],[],1,1,1,1⟩⟩] (sc n) n
def c222 (n:Nat):FF Tryz.prog 222 [.ws 0] q87 1 1 [⟨.i .i64,[],[],false⟩]:=funC Tryz.func222 Tryz.call222 [] [PU n] [] [] [0] (nk n)
def c178 (n:Nat):PF Tryz.prog 178 [.ag [.i .i8,.i .i64],.ag [.i .i8,.i .i64]] (.i .i64):=aE Tryz.func178 Tryz.call178 [(c223 n).e,(c224 n).e,(c222 n).e] [] [] [] (js n)
def c126 (n:Nat):PF Tryz.prog 126 [.ag q38,.ag q38] (.i .i64):=aE Tryz.func126 Tryz.call126 [(c127 n).e,(c177 n).e,(c178 n).e] [] [0] [] (hP n)
def c225 (n:Nat):FF Tryz.prog 225 [.p 0 0] [.cells q21] 1 1 [⟨.b,[],[],false⟩]:=funC Tryz.func225 Tryz.call225 [] [] [] [] [0] (pa n)
def c229 (n:Nat):PF Tryz.prog 229 [.ag q33] (.b):=aE Tryz.func229 Tryz.call229 [(c61 n).e] [] [] [] (mm n)
def c230 (n:Nat):PF Tryz.prog 230 [.ag q33] (.b):=aE Tryz.func230 Tryz.call230 [(c97 n).e,(c229 n).e,(c221 n).e] [] [] [] (kE n)
def c227 (n:Nat):PF Tryz.prog 227 [.ag q33,.ag q33] (.b):=aE Tryz.func227 Tryz.call227 [(c230 n).e,(c221 n).e,(c177 n).e,(c178 n).e] [] [] [] (lJ n)
def c226 (n:Nat):FF Tryz.prog 226 [.p 0 0] [.cells q21] 1 1 [⟨.b,[],[],false⟩]:=funC Tryz.func226 Tryz.call226 [(c227 n).e] [] [] [] [0] (oW n)
def c228 (n:Nat):FF Tryz.prog 228 q99 [.cells [.i .u8],.cells q21] 2 2 [⟨.b,[],[],false⟩]:=funC Tryz.func228 Tryz.call228 [(c229 n).e] [] [] [] [0,1] (oK n)
def c180 (n:Nat):FF Tryz.prog 180 [.sl 0 0 3 (some (.k 3))] [.cells [.i .i64,.fn 225 [.p 1 0],.i .i64,.fn 226 [.p 1 0],.i .i64,.fn 228 [.p 2 0,.p 1 0]],.cells q21,.cells [.i .u8]] 3 3 [⟨.i .i64,[],[],false⟩]:=funC Tryz.func180 Tryz.call180 [(c225 n).e,(c226 n).e,(c228 n).e] [] [0] [] [0,1,2] (dD n)
def c181 (n:Nat):PF Tryz.prog 181 [.ag q21,.i .u8] (.i .i64):=aE Tryz.func181 Tryz.call181 [(c97 n).e,(c180 n).e] [] [] [] (fJ n)
def c182 (n:Nat):FF Tryz.prog 182 q99 [.cells q21,.cells q53,.rows q11] 3 3 [⟨.b,[],[],false⟩]:=funC Tryz.func182 Tryz.call182 [(c181 n).e] [] [] [] [0,1,2] (pd n)
def c184 (n:Nat):PF Tryz.prog 184 [.ag q21] (.b):=aE Tryz.func184 Tryz.call184 [(c230 n).e] [] [] [] (l8 n)
def c183 (n:Nat):FF Tryz.prog 183 [.p 0 0,.p 1 0,.p 2 0] [.cells [.i .u8,.bd,.b,.s,.i .i64,.i .i64,.s,.s,.i .u8,.i .u8,.i .u8,.i .u8,.bd,.b,.s,.i .i64,.i .i64,.s,.s,.i .u8,.i .u8,.i .u8,.i .u8,.bd,.b,.s,.i .i64,.i .i64,.s,.s,.i .u8,.i .u8,.i .u8,.rs 21 3 0 .q (some .q),.b,.b],.cells [.i .i64],.cells q21,.rows q11] 4 4 [⟨.b,[],[],false⟩]:=funC Tryz.func183 Tryz.call183 [(c184 n).e] [] [] [] [0,1,2,3] (oY n)
def c185 (n:Nat):FF Tryz.prog 185 [.p 0 0,.p 1 0,.p 2 0,.p 3 0] [.cells [.i .u8,.bd,.b,.s,.i .i64,.i .i64,.s,.s,.i .u8,.i .u8,.i .u8,.i .u8,.bd,.b,.s,.i .i64,.i .i64,.s,.s,.i .u8,.i .u8,.i .u8,.i .u8,.bd,.b,.s,.i .i64,.i .i64,.s,.s,.i .u8,.i .u8,.i .u8,.rs 21 4 0 .q (some .q),.b,.b],.cells [.i .i64],.cells [.i .i64],.cells q21,.rows q11] 5 5 [⟨.b,[],[],false⟩]:=funC Tryz.func185 Tryz.call185 [(c184 n).e] [] [] [] [0,1,2,3,4] (pj n)
def c186 (n:Nat):FF Tryz.prog 186 q99 [.cells q53,.cells [.i .i64],.rows q11] 3 3 [⟨.b,[],[],false⟩]:=funC Tryz.func186 Tryz.call186 [] [] [] [] [0,1,2] (oZ n)
def P3 (n:Nat):FF Tryz.prog 180 [.sl 0 0 4 (some (.k 4))] [.cells q65,.cells q21,.cells [.i .u8,.bd,.b,.s,.i .i64,.i .i64,.s,.s,.i .u8,.i .u8,.i .u8,.i .u8,.bd,.b,.s,.i .i64,.i .i64,.s,.s,.i .u8,.i .u8,.i .u8,.i .u8,.bd,.b,.s,.i .i64,.i .i64,.s,.s,.i .u8,.i .u8,.i .u8,.rs 21 5 0 .q (some .q),.b,.b],.cells [.i .i64],.cells [.i .i64],.rows q11] 6 6 [⟨.i .i64,[],[],false⟩]:=funC Tryz.func180 Tryz.call180 [(c182 n).e,(c183 n).e,(c185 n).e,(c186 n).e] [] [0] [] [0,1,2,3,4,5] (oa n)
def RB (n:Nat):List (FE Tryz.prog):=[(c181 n).e,(P3 n).e]
def RN (n:Nat):LP Tryz.prog Tryz.f134.ntmps:=cD (RB n) [] 0 (sb (acM [] [] Tryz.f134) 0) true ⟨[(1,.p 1 0),(4,.p 2 0),(13,.rs 21 0 0 .q (some .q)),(14,.i .i64),(15,.i .i64)],[(0,.rows q11),(1,.cells q20),(2,.cells [.i .i64])],3,1,1,1⟩ [] q67 (ol n) n
def c134 (n:Nat):FF Tryz.prog 134 [.ag q20] q66 1 1 [⟨.tp [.i .i64,.i .i64],[],[],false⟩]:=funC Tryz.func134 Tryz.call134 (RB n) [RN n] [] [] [0] (qX n)
def c85 (n:Nat):FF Tryz.prog 85 [.ag q20] q66 1 1 [⟨.tp [.i .i64,.i .i64],[],[],false⟩]:=funC Tryz.func85 Tryz.call85 [(c133 n).e,(c97 n).e,(c126 n).e,(c134 n).e] [] [] [] [0] (nI n)
def c74E (n:Nat):List (FE Tryz.prog):=[(c121 n).e,(c122 n).e,(c76 n).e,(c123 n).e,(c98 n).e,(c57 n).e,(c124 n).e,(c78 n).e,(c125 n).e,(c85 n).e]
def Tz (n:Nat):LP Tryz.prog Tryz.f74.ntmps:=dY (c74E n) [] 1003 (sb (acM [] [3,16,17] Tryz.f74) 1003) true ⟨[(0,.p 0 0),(2,.p 1 0),(3,.p 2 0),(15,.b)],[(0,.cells q30),(1,.cells q15),(2,.cells [.ik .u8 3,.bk false,.bk false,.sk [],.ik .i64 0,.ik .i64 0,.sk [],.sk [],.ik .u8 0,.ik .u8 0,.ik .u8 0,.ik .u8 0,.bk false,.bk false,.sk [],.ik .i64 0,.ik .i64 0,.sk [],.sk [],.ik .u8 0,.ik .u8 0,.ik .u8 0,.ik .u8 0,.bk false,.bk false,.sk [],.ik .i64 0,.ik .i64 0,.sk [],.sk [],.ik .u8 0,.ik .u8 0,.ik .u8 0,.ws 4,.bk false,.bk false]),(3,.rows q11),(4,.rows q11)],5,1,0,1⟩ [⟨.nrm,⟨[(0,.p 0 0),(2,.p 1 0),(3,.p 2 0)],[(0,.cells q30),(1,.cells q15),(2,.cells [.i .u8,.bk false,.bk false,.sk [],.ik .i64 0,.ik .i64 0,.sk [],.sk [],.ik .u8 0,.ik .u8 0,.ik .u8 0,.ik .u8 0,.bk false,.bk false,.sk [],.ik .i64 0,.ik .i64 0,.sk [],.sk [],.ik .u8 0,.ik .u8 0,.ik .u8 0,.ik .u8 0,.bk false,.bk false,.sk [],.ik .i64 0,.ik .i64 0,.sk [],.sk [],.ik .u8 0,.ik .u8 0,.ik .u8 0,.ws 4,.bk false,.bk false]),(3,.rows q11),(4,.rows q11)],5,1,0,1⟩⟩] (rC n)
def QW (n:Nat):LP Tryz.prog Tryz.f74.ntmps:=dY (c74E n) [] 1016 (sb (sb (acM [] [3,16,17] Tryz.f74) 0).body 1016) true ⟨q90,q24,7,1,0,1⟩ [⟨.nrm,q83⟩] (ql n)
def RQ (n:Nat):LP Tryz.prog Tryz.f74.ntmps:=dY (c74E n) [] 1017 (sb (sb (acM [] [3,16,17] Tryz.f74) 0).body 1017) true q83 [⟨.pan (.it 126 (.ag [.i .i64,.i .i64])),⟨[],q48,1,1,0,1⟩⟩,⟨.nrm,⟨q90,[(0,.cells q30),(1,.cells q26),(2,.cells q42),(3,.rows [.i .i64]),(4,.cells q21),(5,.rows q11),(6,.rows q11)],7,1,0,1⟩⟩] (pU n)
def S5 (n:Nat):LP Tryz.prog Tryz.f74.ntmps:=cD (c74E n) [QW n,RQ n] 0 (sb (acM [] [3,16,17] Tryz.f74) 0) true ⟨q105,[(0,.cells q30),(1,.cells q13),(2,.cells [.i .u8,.bk false,.bk false,.sk [],.ik .i64 0,.ik .i64 0,.sk [],.sk [],.ik .u8 0,.ik .u8 0,.ik .u8 0,.ik .u8 0,.bk false,.bk false,.sk [],.ik .i64 0,.ik .i64 0,.sk [],.sk [],.ik .u8 0,.ik .u8 0,.ik .u8 0,.ik .u8 0,.bk false,.bk false,.sk [],.ik .i64 0,.ik .i64 0,.sk [],.sk [],.ik .u8 0,.ik .u8 0,.ik .u8 0,.ws 5,.b,.bk false]),(3,.rows [.i .i64]),(4,.rows q11),(5,.rows q11)],6,1,0,1⟩ [.nilT 6 1000 [.i .i64]] [⟨.pan (.it 126 (.ag [.i .i64,.i .i64])),⟨[],q48,1,1,0,1⟩⟩,⟨.exit 0,⟨q105,[(0,.cells q30),(1,.cells q18),(2,.cells q28),(3,.rows [.i .i64]),(4,.rows q11),(5,.rows q11)],6,1,0,1⟩⟩] (rU n) n
def c74 (n:Nat):FF Tryz.prog 74 [.p 0 0] q81 0 1 [⟨.it 126 (.ag [.i .i64,.i .i64]),q48,[],true⟩,⟨.ag [.i .u8,.bd,.b,.s,.i .i64,.i .i64,.s,.s,.i .u8,.i .u8,.i .u8,.i .u8,.bd,.b,.s,.i .i64,.i .i64,.s,.s,.i .u8,.i .u8,.i .u8,.i .u8,.bd,.b,.s,.i .i64,.i .i64,.s,.s,.i .u8,.i .u8,.i .u8,.rs 21 1 0 .q (some .q),.b,.b],[(0,.cells q30),(1,.rows q11)],[1],false⟩]:=funC Tryz.func74 Tryz.call74 (c74E n) [Tz n,S5 n] [] [3,16,17] [0] (sd n)
def c75 (n:Nat):FF Tryz.prog 75 [.p 2 0,.i .i64] [.cells q30,.rows q11,.cells q51] 2 3 [⟨.tp [],[(2,.cells q51)],[],false⟩]:=funC Tryz.func75 Tryz.call75 [] [] [] [] [2,0,1] (gM n)
def RD (n:Nat):FF Tryz.prog 75 [.p 2 0,.i .i64] [.cells q30,.rows q11,.cells q56] 2 3 [⟨.tp [],[(2,.cells q56)],[],false⟩]:=funC Tryz.func75 Tryz.call75 [] [] [] [] [2,0,1] (dS n)
def KY (_n:Nat):Ent:=MJ 59
theorem Hi (n:Nat):ek Tryz.prog (KY n):=Hg Tryz.call59 λs c w h1 h2 h3=>Tryz.strings_TrimRight_laid s c w h1 h2 h3
def c59 (n:Nat):FE Tryz.prog:=libF (Hi n)
def Qw (n:Nat):PF Tryz.prog 111 [.s,.sk [45]] (.b):=aE Tryz.func111 Tryz.call111 [] [] [] [] (gW n)
def c105 (n:Nat):PF Tryz.prog 105 [.s,.sk [45]] (.s):=aE Tryz.func105 Tryz.call105 [(Qw n).e] [] [] [] (iI n)
def c60 (n:Nat):PF Tryz.prog 60 [.s,.sk [45]] (.s):=aE Tryz.func60 Tryz.call60 [(c105 n).e] [] [] [] (my n)
end
end Go.Sh
