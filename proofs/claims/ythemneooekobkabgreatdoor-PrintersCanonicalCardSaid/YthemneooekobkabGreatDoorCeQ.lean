/- Each function of the program computes its plain function: the certificates.
   Conditions: none. Printed by the bench tool gen.py. -/
import Derived.Test.YthemneooekobkabGreatDoorAbsPat
import Derived.Test.YthemneooekobkabGreatDoorHGa
import Derived.Test.YthemneooekobkabGreatDoorHGb
import Derived.Test.YthemneooekobkabGreatDoorHGe
set_option linter.unusedVariables false
set_option linter.unusedSimpArgs false
set_option maxRecDepth 100000
set_option maxHeartbeats 4000000
namespace Go.Sh
open Go.Abs Go.Proofs
noncomputable section
abbrev q30:List PV:=[.s,.i .i64]
abbrev q90:List PB:=[.cells q30]
abbrev q54:List (Nat×PB):=[(0,.cells q30)]
abbrev q93:List (Nat×PV):=[(4,.i .i64)]
abbrev q122:List PX:=[⟨.ret,⟨q93,[],1,1,1,1⟩⟩,⟨.exit 0,⟨[],[],1,1,1,1⟩⟩]
abbrev q110:List (Nat×PB):=[(1,.cells q30)]
abbrev q38:List PV:=[.b,.b,.s,.i .i64,.i .i64]
abbrev q116:List PV:=[.p 0 0,.p 1 0]
abbrev q21:List PV:=[.b,.b,.s,.i .i64,.i .i64,.s,.s,.i .u8,.i .u8,.i .u8]
abbrev q123:List PX:=[⟨.ret,⟨q93,[],1,0,0,0⟩⟩,⟨.exit 0,⟨[],[],1,0,0,0⟩⟩]
abbrev q111:List PV:=[.ai .u8 3,.i .i64]
abbrev q118:List PV:=[.ai .u8 3,.ai .u8 3,.i .i64]
abbrev q100:List PB:=[.cells [.fn 186 [.p 1 0]],.cells [.fn 1000185 [.p 3 0]],.cells q21,.cells q30]
abbrev q97:List (Nat×PB):=[(2,.cells q21),(3,.cells q30)]
abbrev q88:List PV:=[.ag q21]
abbrev q120:List (Nat×PV):=[(0,.s),(7,.s),(8,.i .i64),(9,.i .i64),(12,.i .i64)]
abbrev q121:PSt:=⟨q93,[],0,0,0,0⟩
abbrev q117:PSt:=⟨[],[],0,0,0,0⟩
abbrev q125:List PV:=[.ag q38]
abbrev q65:List PV:=[.i .i8,.i .i64,.i .i8,.i .i64]
abbrev q130:PSt:=⟨[(0,.s),(1,.i .i64),(5,.i .i64)],[],0,0,0,0⟩
abbrev q81:List (Nat×PB):=[(0,.rows [.i .i64])]
abbrev q37:List PV:=[.b,.b,.s,.i .i64,.i .i64,.s,.s,.i .u8,.i .u8,.i .u8,.ws 0,.ws 1]
abbrev q98:List PB:=[.rows [.i .i64]]
abbrev q106:PSt:=⟨[(2,.i .i64)],[],1,0,0,0⟩
abbrev q76:PSt:=⟨[(0,.s),(1,.i .i64),(2,.b),(8,.i .u8),(9,.i .u8),(10,.p 0 0),(11,.p 1 0),(12,.i .i64)],[(0,.ints .u8 18),(1,.ints .u8 18)],2,0,0,0⟩
abbrev q114:List PB:=[.rows [.i .i64],.rows [.i .i64]]
abbrev q70:List (Nat×PB):=[(0,.rows [.i .i64]),(1,.rows [.i .i64]),(2,.cells q37),(3,.cells [.i .i64,.i .i64,.i .i64]),(4,.cells [.b]),(5,.cells [.ik .i64 0,.ik .i64 0,.ik .i64 0])]
abbrev q15:List (Nat×PB):=[(0,.rows [.i .i64]),(1,.rows [.i .i64]),(2,.cells q37),(3,.cells [.i .i64,.i .i64,.i .i64]),(4,.cells [.b]),(5,.cells [.i .i64,.i .i64,.i .i64]),(62,.rows [.i .i64]),(63,.rows [.i .i64])]
abbrev q18:List (Nat×PB):=[(0,.rows [.i .i64]),(1,.rows [.i .i64]),(2,.cells q37),(3,.cells [.i .i64,.i .i64,.i .i64]),(4,.cells [.b]),(5,.cells [.i .i64,.i .i64,.i .i64])]
abbrev q60:PSt:=⟨[(3,.p 2 0),(4,.p 3 0),(5,.p 4 0),(6,.p 5 0),(8,.i .i64),(9,.ws 62),(10,.ws 63),(11,.fn 211 [.p 4 0]),(12,.i .i64),(15,.i .i64),(16,.b),(17,.i .i64),(53,.ws 62),(54,.i .i64),(55,.i .i64)],q15,64,2,2,2⟩
abbrev q61:PSt:=⟨[(3,.p 2 0),(4,.p 3 0),(5,.p 4 0),(6,.p 5 0),(8,.i .i64),(9,.ws 0),(10,.ws 1),(11,.fn 211 [.p 4 0]),(12,.i .i64),(15,.i .i64),(16,.b),(17,.i .i64),(53,.ws 0),(54,.i .i64),(55,.i .i64)],q18,62,2,2,2⟩
abbrev q84:List (Nat×PV):=[(6,.p 5 0),(7,.b)]
abbrev q49:List (Nat×PB):=[(5,.cells [.i .i64,.i .i64,.i .i64])]
abbrev q127:PSt:=⟨q84,q49,64,2,2,2⟩
abbrev q36:PSt:=⟨[(3,.p 2 0),(4,.p 3 0),(5,.p 4 0),(6,.p 5 0),(8,.i .i64),(9,.ws 62),(10,.ws 63),(11,.fn 211 [.p 4 0]),(12,.i .i64),(53,.ws 62),(54,.i .i64),(55,.i .i64)],q15,64,2,2,2⟩
abbrev q128:PSt:=⟨q84,q49,62,2,2,2⟩
abbrev q39:PSt:=⟨[(3,.p 2 0),(4,.p 3 0),(5,.p 4 0),(6,.p 5 0),(8,.i .i64),(9,.ws 0),(10,.ws 1),(11,.fn 211 [.p 4 0]),(12,.i .i64),(53,.ws 0),(54,.i .i64),(55,.i .i64)],q18,62,2,2,2⟩
abbrev q11:List Lf:=[.bo,.bo,.s,.i .i64,.i .i64,.s,.s,.i .u8,.i .u8,.i .u8,.bo,.bo,.bo,.s,.i .i64,.i .i64,.s,.s,.i .u8,.i .u8,.i .u8]
abbrev q72:List PB:=[.rows q11]
abbrev q19:List PV:=[.i .u8,.bd,.b,.s,.i .i64,.i .i64,.s,.s,.i .u8,.i .u8,.i .u8,.i .u8,.bd,.b,.s,.i .i64,.i .i64,.s,.s,.i .u8,.i .u8,.i .u8,.i .u8,.bd,.b,.s,.i .i64,.i .i64,.s,.s,.i .u8,.i .u8,.i .u8,.rs 21 0 0 .q (some .q),.b,.b]
abbrev q42:List PV:=[.i .u8,.b,.b,.s,.i .i64,.i .i64,.s,.s,.i .u8,.i .u8,.i .u8]
abbrev q20:List PV:=[.bd,.b,.s,.i .i64,.i .i64,.s,.s,.i .u8,.i .u8,.i .u8,.b,.bd,.b,.s,.i .i64,.i .i64,.s,.s,.i .u8,.i .u8,.i .u8]
abbrev q33:List PV:=[.bd,.b,.s,.i .i64,.i .i64,.s,.s,.i .u8,.i .u8,.i .u8]
abbrev q57:List PV:=[.i .u8,.bd,.b,.s,.i .i64,.i .i64,.s,.s,.i .u8,.i .u8,.i .u8,.i .u8,.bd,.b,.s,.i .i64,.i .i64,.s,.s,.i .u8,.i .u8,.i .u8,.i .u8,.bd,.b,.s,.i .i64,.i .i64,.s,.s,.i .u8,.i .u8,.i .u8,.rs 21 2 0 .q (some .q),.b,.b]
abbrev q71:List PV:=[.i .i64,.fn 158 [.p 1 0,.p 2 0],.i .i64,.fn 159 [.p 2 0,.p 3 0,.p 1 0],.i .i64,.fn 161 [.p 2 0,.p 3 0,.p 4 0,.p 1 0],.i .i64,.fn 162 [.p 2 0,.p 4 0]]
abbrev q73:List PX:=[⟨.ret,⟨[(2,.i .i64),(3,.i .i64)],[],1,1,1,1⟩⟩,⟨.exit 0,⟨[],[],1,1,1,1⟩⟩]
abbrev q14:List PV:=[.ik .u8 0,.bk false,.bk false,.sk [],.ik .i64 0,.ik .i64 0,.sk [],.sk [],.ik .u8 0,.ik .u8 0,.ik .u8 0,.ik .u8 0,.bk false,.bk false,.sk [],.ik .i64 0,.ik .i64 0,.sk [],.sk [],.ik .u8 0,.ik .u8 0,.ik .u8 0,.ik .u8 0,.bk false,.bk false,.sk [],.ik .i64 0,.ik .i64 0,.sk [],.sk [],.ik .u8 0,.ik .u8 0,.ik .u8 0,.ws 3,.bk false,.bk false]
abbrev q104:List (Nat×PV):=[(0,.p 0 0),(2,.p 1 0),(3,.p 2 0),(5,.s),(6,.ws 3),(7,.p 4 0),(9,.i .i64)]
abbrev q22:List PV:=[.ik .u8 0,.bk false,.bk false,.sk [],.ik .i64 0,.ik .i64 0,.sk [],.sk [],.ik .u8 0,.ik .u8 0,.ik .u8 0,.ik .u8 0,.bk false,.bk false,.sk [],.ik .i64 0,.ik .i64 0,.sk [],.sk [],.ik .u8 0,.ik .u8 0,.ik .u8 0,.ik .u8 0,.bk false,.bk false,.sk [],.ik .i64 0,.ik .i64 0,.sk [],.sk [],.ik .u8 0,.ik .u8 0,.ik .u8 0,.ws 5,.bk false,.bk false]
abbrev q27:List PV:=[.i .u8,.bk false,.bk false,.sk [],.ik .i64 0,.ik .i64 0,.sk [],.sk [],.ik .u8 0,.ik .u8 0,.ik .u8 0,.ik .u8 0,.bk false,.bk false,.sk [],.ik .i64 0,.ik .i64 0,.sk [],.sk [],.ik .u8 0,.ik .u8 0,.ik .u8 0,.ik .u8 0,.bk false,.bk false,.sk [],.ik .i64 0,.ik .i64 0,.sk [],.sk [],.ik .u8 0,.ik .u8 0,.ik .u8 0,.ws 6,.b,.bk false]
abbrev q69:List PV:=[.bd,.b,.s,.i .i64,.i .i64,.s,.s,.i .u8,.i .u8,.i .u8,.bk false,.bk false,.bk false,.sk [],.ik .i64 0,.ik .i64 0,.sk [],.sk [],.ik .u8 0,.ik .u8 0,.ik .u8 0]
abbrev q35:List (Nat×PB):=[(0,.cells q30),(1,.cells q22),(2,.cells q27),(3,.rows [.i .i64]),(4,.cells q69),(5,.rows q11),(6,.rows q11)]
abbrev q92:PSt:=⟨[(0,.p 0 0),(2,.p 1 0),(3,.p 2 0),(5,.s),(6,.ws 3),(7,.p 4 0),(9,.i .i64),(49,.b)],q35,7,1,0,1⟩
abbrev q124:List (Nat×PV):=[(0,.p 0 0),(2,.p 1 0),(3,.p 2 0),(5,.s),(6,.ws 3)]
abbrev q23:List PV:=[.ik .u8 0,.bk false,.bk false,.sk [],.ik .i64 0,.ik .i64 0,.sk [],.sk [],.ik .u8 0,.ik .u8 0,.ik .u8 0,.ik .u8 0,.bk false,.bk false,.sk [],.ik .i64 0,.ik .i64 0,.sk [],.sk [],.ik .u8 0,.ik .u8 0,.ik .u8 0,.ik .u8 0,.bk false,.bk false,.sk [],.ik .i64 0,.ik .i64 0,.sk [],.sk [],.ik .u8 0,.ik .u8 0,.ik .u8 0,.ws 4,.bk false,.bk false]
abbrev q47:List PV:=[.i .u8,.bk false,.bk false,.sk [],.ik .i64 0,.ik .i64 0,.sk [],.sk [],.ik .u8 0,.ik .u8 0,.ik .u8 0,.ik .u8 0,.bk false,.bk false,.sk [],.ik .i64 0,.ik .i64 0,.sk [],.sk [],.ik .u8 0,.ik .u8 0,.ik .u8 0,.ik .u8 0,.bk false,.bk false,.sk [],.ik .i64 0,.ik .i64 0,.sk [],.sk [],.ik .u8 0,.ik .u8 0,.ik .u8 0,.ws 5,.b,.bk false]
abbrev q63:List PV:=[.i .u8,.bd,.b,.s,.i .i64,.i .i64,.s,.s,.i .u8,.i .u8,.i .u8,.i .u8,.bd,.b,.s,.i .i64,.i .i64,.s,.s,.i .u8,.i .u8,.i .u8,.i .u8,.bd,.b,.s,.i .i64,.i .i64,.s,.s,.i .u8,.i .u8,.i .u8,.ws 4,.b,.b]
abbrev q43:List PV:=[.i .u8,.bd,.b,.s,.i .i64,.i .i64,.s,.s,.i .u8,.i .u8,.i .u8,.i .u8,.bd,.b,.s,.i .i64,.i .i64,.s,.s,.i .u8,.i .u8,.i .u8,.i .u8,.bd,.b,.s,.i .i64,.i .i64,.s,.s,.i .u8,.i .u8,.i .u8,.ws 5,.b,.b]
abbrev q55:List PV:=[.p 0 0,.i .u8,.bd,.b,.s,.i .i64,.i .i64,.s,.s,.i .u8,.i .u8,.i .u8,.i .u8,.bd,.b,.s,.i .i64,.i .i64,.s,.s,.i .u8,.i .u8,.i .u8,.i .u8,.bd,.b,.s,.i .i64,.i .i64,.s,.s,.i .u8,.i .u8,.i .u8,.rs 21 1 0 .q (some .q),.b,.b,.i .i64]
abbrev q58:List PV:=[.p 0 0,.i .u8,.bd,.b,.s,.i .i64,.i .i64,.s,.s,.i .u8,.i .u8,.i .u8,.i .u8,.bd,.b,.s,.i .i64,.i .i64,.s,.s,.i .u8,.i .u8,.i .u8,.i .u8,.bd,.b,.s,.i .i64,.i .i64,.s,.s,.i .u8,.i .u8,.i .u8,.ws 1,.b,.b,.i .i64]
def c107 (n:Nat):FF Tryz.prog 107 [.p 0 0] q90 1 1 [⟨.s,[],[],false⟩]:=funC Tryz.func107 Tryz.call107 [] [] [] [] [0] (cJ n)
def c70 (n:Nat):FF Tryz.prog 70 [.p 0 0] q90 1 1 [⟨.tp [.i .u8,.b],[],[],false⟩]:=funC Tryz.func70 Tryz.call70 [(c107 n).e] [] [] [] [0] (bi n)
def c111 (n:Nat):FF Tryz.prog 111 [.p 0 0] q90 1 1 [⟨.i .i64,[],[],false⟩]:=funC Tryz.func111 Tryz.call111 [] [] [] [] [0] (bI n)
def c110 (n:Nat):FF Tryz.prog 110 [.p 0 0,.i .i64,.i .i64] q90 1 1 [⟨.it 129 (.ag [.i .i64,.i .i64]),[],[],true⟩]:=funC Tryz.func110 Tryz.call110 [] [] [] [] [0] (aO n)
def c234 (_n:Nat):FE Tryz.prog:=libF (MM Tryz.func234 (by kernel_rfl) (by kernel_rfl) (by kernel_rfl) (by kernel_rfl))
def c182 (n:Nat):PF Tryz.prog 182 [.s,.i .u8] (.i .i64):=aK Tryz.func182 Tryz.call182 [(c234 n)] [] [] [] (dh n)
def c143 (n:Nat):PF Tryz.prog 143 [.s,.i .u8] (.i .i64):=aK Tryz.func143 Tryz.call143 [(c182 n).e] [] [] [] (dB n)
def c108 (n:Nat):FF Tryz.prog 108 [.p 0 0,.s] q90 0 1 [⟨.it 129 (.ag [.i .i64,.i .i64]),q54,[],true⟩,⟨.i .u8,q54,[],false⟩]:=funC Tryz.func108 Tryz.call108 [(c70 n).e,(c111 n).e,(c110 n).e,(c143 n).e] [] [] [] [0] (cu n)
def c109 (n:Nat):PF Tryz.prog 109 [.i .u8] (.tp [.s,.s]):=aK Tryz.func109 Tryz.call109 [] [] [] [] (eK n)
def c192 (n:Nat):PF Tryz.prog 192 [.s,.s] (.b):=aK Tryz.func192 Tryz.call192 [] [] [] [] (gx n)
def c145 (n:Nat):PF Tryz.prog 145 [.s,.s] (.b):=aK Tryz.func145 Tryz.call145 [(c192 n).e] [] [] [] (jJ n)
def c113 (n:Nat):FF Tryz.prog 113 [.p 0 0,.s] q90 1 1 [⟨.b,[],[],false⟩]:=funC Tryz.func113 Tryz.call113 [(c107 n).e,(c145 n).e] [] [] [] [0] (fJ n)
def c73 (n:Nat):FF Tryz.prog 73 [.p 0 0,.s] q90 0 1 [⟨.b,q54,[],false⟩]:=funC Tryz.func73 Tryz.call73 [(c113 n).e] [] [] [] [0] (aC n)
def c180 (n:Nat):PF Tryz.prog 180 [] (.ag [.s,.s,.s,.s]):=aK Tryz.func180 Tryz.call180 [] [] [] [] (tD n)
def Va (n:Nat):LP Tryz.prog Tryz.f204.ntmps:=cA [] [] 0 (sb (acM [] [] Tryz.f204) 0) false ⟨[(0,.sl 0 0 4 (some (.k 4))),(1,.s),(7,.i .i64),(8,.i .i64)],[(0,.cells [.s,.s,.s,.s])],1,1,1,1⟩ [] q122 (i6 n) n
def c204 (n:Nat):FF Tryz.prog 204 [.sl 0 0 4 (some (.k 4)),.s] [.cells [.s,.s,.s,.s]] 1 1 [⟨.i .i64,[],[],false⟩]:=funC Tryz.func204 Tryz.call204 [] [Va n] [] [] [0] (jN n)
def c184 (n:Nat):PF Tryz.prog 184 [.i .u8] (.tp [.i .u8,.b]):=aK Tryz.func184 Tryz.call184 [(c180 n).e,(c204 n).e] [] [] [] (pZ n)
def c183 (n:Nat):FF Tryz.prog 183 [.p 0 0] [.cells [.p 1 0],.cells q30] 1 2 [⟨.it 129 (.ag [.i .i64,.i .i64]),q110,[],true⟩,⟨.i .u8,q110,[],false⟩]:=funC Tryz.func183 Tryz.call183 [(c70 n).e,(c184 n).e,(c108 n).e] [] [] [] [0,1] (cL n)
def Vj (n:Nat):List (FE Tryz.prog):=[(c111 n).e,(c70 n).e,(c143 n).e,(c110 n).e]
def V7 (n:Nat):LP Tryz.prog Tryz.f185.ntmps:=cA (Vj n) [] 0 (sb (acM [] [] Tryz.f185) 0) false ⟨[(0,.p 0 0),(1,.s),(2,.i .i64),(3,.i .i64),(9,.i .i64),(10,.i .u8),(11,.b)],q54,1,1,0,1⟩ [] [⟨.exit 0,⟨[(0,.p 0 0),(2,.i .i64),(9,.i .i64)],q54,1,1,0,1⟩⟩] (da n) n
def c185 (n:Nat):FF Tryz.prog 185 [.p 0 0,.s,.i .i64,.i .i64] q90 0 1 [⟨.it 129 (.ag [.i .i64,.i .i64]),q54,[],true⟩,⟨.s,q54,[],false⟩]:=funC Tryz.func185 Tryz.call185 (Vj n) [V7 n] [] [] [0] (bZ n)
noncomputable def PM (_n:Nat):Ent:=RG 95 230
theorem Nr (n:Nat):fH Tryz.prog (PM n):=OB Tryz.call95 (λs n hl h w=>(Tryz.strconv_Atoi s n hl h w).mono λe w' ⟨h1,t,h2⟩=>⟨h1,h2▸qD _ _ _⟩) (λs hl h w hg=>Qf s hl h w hg)
def c95 (n:Nat):FE Tryz.prog:=libF (Nr n)
def c235 (n:Nat):FF Tryz.prog 235 [.s,.p 0 0] [.cells [.p 1 0],.cells q30] 1 2 [⟨.i .i64,q110,[],false⟩,⟨.it 129 (.ag [.i .i64,.i .i64]),q110,[],true⟩]:=funC Tryz.func235 Tryz.call235 [(c73 n).e,(c108 n).e,(c185 n).e,(c95 n)] [] [] [] [0,1] (dk n)
def c188 (n:Nat):FF Tryz.prog 188 [.p 0 0] q90 0 1 [⟨.it 129 (.ag [.i .i64,.i .i64]),q54,[],true⟩,⟨.ag q38,q54,[],false⟩]:=funC Tryz.func188 Tryz.call188 [(c73 n).e,(c108 n).e,(c185 n).e,(c235 n).e] [] [] [] [0] (mn n)
def c187 (n:Nat):FF Tryz.prog 187 q116 [.cells [.p 2 0],.cells q21,.cells q30] 1 3 [⟨.it 129 (.ag [.i .i64,.i .i64]),[(1,.cells q21),(2,.cells q30)],[],true⟩,⟨.tp [],[(1,.cells q21),(2,.cells q30)],[],false⟩]:=funC Tryz.func187 Tryz.call187 [(c188 n).e] [] [] [] [0,1,2] (kn n)
def c179 (n:Nat):PF Tryz.prog 179 [.i .u8] (.i .i64):=aK Tryz.func179 Tryz.call179 [] [] [] [] (iC n)
def Wj (n:Nat):List (FE Tryz.prog):=[(c179 n).e]
def U6 (n:Nat):LP Tryz.prog Tryz.f171.ntmps:=cA (Wj n) [] 0 (sb (acM [] [] Tryz.f171) 0) false ⟨[(1,.i .i64),(13,.ai .u8 3),(14,.i .i64)],[],1,0,0,0⟩ [] q123 (iq n) n
def c171 (n:Nat):PF Tryz.prog 171 q111 (.i .i64):=aK Tryz.func171 Tryz.call171 (Wj n) [U6 n] [] [] (dJ n)
def c236 (n:Nat):FF Tryz.prog 236 [.i .i64,.p 2 0,.p 0 0,.p 1 0] [.ints .u8 3,.ints .u8 3,.cells [.i .u8]] 2 3 [⟨.i .u8,[(2,.cells [.i .u8])],[],false⟩]:=funC Tryz.func236 Tryz.call236 [] [] [] [] [2,0,1] (sQ n)
def Wt (n:Nat):List (FE Tryz.prog):=[(c171 n).e,(c236 n).e]
def V1 (n:Nat):LP Tryz.prog Tryz.f191.ntmps:=cA (Wt n) [] 1 (sb (acM [0] [] Tryz.f191) 1) false ⟨[(6,.p 2 0),(12,.fn 236 [.p 5 0,.p 1 0,.p 0 0]),(13,.p 6 0),(14,.i .i64)],[(0,.ints .u8 3),(1,.ints .u8 3),(2,.ints .u8 3),(5,.cells [.i .u8]),(6,.ints .u8 3)],7,0,0,0⟩ [] [⟨.exit 2,⟨[(6,.p 2 0),(13,.p 6 0)],[(2,.ints .u8 3),(6,.ints .u8 3)],7,0,0,0⟩⟩] (rr n) n
def c191 (n:Nat):PF Tryz.prog 191 q118 (.tp q111):=aK Tryz.func191 Tryz.call191 (Wt n) [V1 n] [0] [] (eN n)
def c186 (n:Nat):FF Tryz.prog 186 [.p 0 0] [.cells [.fn 1000185 [.p 1 0]],.cells q30] 1 2 [⟨.it 129 (.ag [.i .i64,.i .i64]),q110,[],true⟩,⟨.s,q110,[],false⟩]:=funC Tryz.func186 Tryz.call186 [(c185 n).e] [] [] [] [0,1] (i7 n)
def c189 (n:Nat):FF Tryz.prog 189 [.p 0 0,.p 2 0] q100 2 4 [⟨.it 129 (.ag [.i .i64,.i .i64]),q97,[],true⟩,⟨.tp [],q97,[],false⟩]:=funC Tryz.func189 Tryz.call189 [(c186 n).e] [] [] [] [0,2,1,3] (kA n)
def c190 (n:Nat):FF Tryz.prog 190 [.p 0 0,.p 2 0] q100 2 4 [⟨.it 129 (.ag [.i .i64,.i .i64]),q97,[],true⟩,⟨.tp [],q97,[],false⟩]:=funC Tryz.func190 Tryz.call190 [(c186 n).e] [] [] [] [0,2,1,3] (ky n)
def c144 (n:Nat):FF Tryz.prog 144 [.p 0 0] q90 0 1 [⟨.it 129 (.ag [.i .i64,.i .i64]),q54,[],true⟩,⟨.tp [.ag q21,.ai .i64 3],q54,[],false⟩]:=funC Tryz.func144 Tryz.call144 [(c183 n).e,(c111 n).e,(c187 n).e,(c191 n).e,(c73 n).e,(c189 n).e,(c190 n).e] [] [0] [] [0] (jY n)
def c96 (n:Nat):PF Tryz.prog 96 [.i .i64] (.i .i64):=aK Tryz.func96 Tryz.call96 [] [] [] [] (dK n)
theorem pure_seasons_Check (n:Nat):∀a r,dK n a=some r->kY Tryz.prog 96 (argP [.i .i64] a) (encP (.i .i64) r):=λa r h=>(c96 n).ok a r h
def c55 (n:Nat):PF Tryz.prog 55 q88 (.tp [.i .i64,.b]):=aK Tryz.func55 Tryz.call55 [(c95 n),(c96 n).e] [] [] [] (bP n)
def c288 (n:Nat):PF Tryz.prog 288 [.i .i32] (.b):=aK Tryz.func288 Tryz.call288 [] [] [] [] (dX n)
def Lh (n:Nat):List (FE Tryz.prog):=[(c143 n).e,(c288 n).e]
def VA (n:Nat):LP Tryz.prog Tryz.f258.ntmps:=cA (Lh n) [] 0 (sb (acM [] [] Tryz.f258) 0) false ⟨[(175,.p 0 0)],[(0,.iter)],1,0,0,0⟩ [] [⟨.ret,⟨q93,[],1,0,0,0⟩⟩,⟨.exit 9,⟨[],[],1,0,0,0⟩⟩] (dR n) n
def Ur (n:Nat):LP Tryz.prog Tryz.f258.ntmps:=cA (Lh n) [] 2 (sb (sb (acM [] [] Tryz.f258) 1).body 2) false ⟨q120,[],128,0,0,0⟩ [] [⟨.exit 3,⟨[(8,.i .i64),(9,.i .i64)],[],128,0,0,0⟩⟩] (m7 n) n
def Uk (n:Nat):LP Tryz.prog Tryz.f258.ntmps:=cA (Lh n) [] 2 (sb (sb (acM [] [] Tryz.f258) 1).body 2) false ⟨q120,[],56,0,0,0⟩ [] [⟨.exit 3,⟨[(8,.i .i64),(9,.i .i64)],[],56,0,0,0⟩⟩] (mU n) n
def UD (n:Nat):LP Tryz.prog Tryz.f258.ntmps:=cA (Lh n) [altL (Ur n) (Uk n) rfl] 1 (sb (acM [] [] Tryz.f258) 1) false ⟨[(0,.s),(7,.s),(8,.i .i64),(9,.i .i64)],[],0,0,0,0⟩ [] [⟨.ret,q121⟩,⟨.exit 1,q117⟩] (dU n) n
def c258 (n:Nat):PF Tryz.prog 258 [.s,.i .i32] (.i .i64):=aK Tryz.func258 Tryz.call258 (Lh n) [VA n,UD n,noL 3 (sb (acM [] [] Tryz.f258) 3)] [] [] (ek n)
def c252 (n:Nat):PF Tryz.prog 252 [.s,.i .i32] (.b):=aK Tryz.func252 Tryz.call252 [(c258 n).e] [] [] [] (dS n)
def c269 (n:Nat):FF Tryz.prog 269 [.i .i32,.p 0 0] [.cells [.s]] 1 1 [⟨.b,[],[],false⟩]:=funC Tryz.func269 Tryz.call269 [(c252 n).e] [] [] [] [0] (ko n)
def UT (n:Nat):List (FE Tryz.prog):=[(c269 n).e]
def VN (n:Nat):LP Tryz.prog Tryz.f294.ntmps:=cA (UT n) [] 0 (sb (acM [] [] Tryz.f294) 0) false ⟨[(1,.fn 269 [.p 0 0]),(2,.b),(10,.p 1 0)],[(0,.cells [.s]),(1,.iter)],2,1,1,1⟩ [] [⟨.ret,⟨[(6,.i .i64)],[],2,1,1,1⟩⟩,⟨.exit 0,⟨[],[],2,1,1,1⟩⟩] (cU n) n
def c294 (n:Nat):FF Tryz.prog 294 [.s,.fn 269 [.p 0 0],.b] [.cells [.s]] 1 1 [⟨.i .i64,[],[],false⟩]:=funC Tryz.func294 Tryz.call294 (UT n) [VN n] [] [] [0] (lY n)
def c268 (n:Nat):FF Tryz.prog 268 [.s,.fn 269 [.p 0 0]] [.cells [.s]] 1 1 [⟨.i .i64,[],[],false⟩]:=funC Tryz.func268 Tryz.call268 [(c294 n).e] [] [] [] [0] (lS n)
def c228 (n:Nat):PF Tryz.prog 228 [.s,.s] (.b):=aK Tryz.func228 Tryz.call228 [(c268 n).e] [] [] [] (gz n)
def U2 (n:Nat):LP Tryz.prog Tryz.f199.ntmps:=cA [] [] 0 (sb (acM [] [] Tryz.f199) 0) false ⟨[(0,.s),(1,.i .u8)],[],0,0,0,0⟩ [] [⟨.exit 0,⟨[(0,.s)],[],0,0,0,0⟩⟩] (dF n) n
def c199 (n:Nat):PF Tryz.prog 199 [.s,.i .u8] (.s):=aK Tryz.func199 Tryz.call199 [] [U2 n] [] [] (gm n)
def Up (n:Nat):LP Tryz.prog Tryz.f270.ntmps:=cA [] [] 0 (sb (acM [] [] Tryz.f270) 0) false ⟨[(0,.s),(1,.i .u8)],[],0,0,0,0⟩ [] [⟨.exit 0,⟨[(0,.s)],[],0,0,0,0⟩⟩] (fk n) n
def c270 (n:Nat):PF Tryz.prog 270 [.s,.i .u8] (.s):=aK Tryz.func270 Tryz.call270 [] [Up n] [] [] (gY n)
def c229 (n:Nat):PF Tryz.prog 229 [.s,.sk [48]] (.s):=aK Tryz.func229 Tryz.call229 [(c199 n).e,(c270 n).e] [] [] [] (ow n)
def c168 (n:Nat):PF Tryz.prog 168 [.s,.sk [88]] (.i .i64):=aK Tryz.func168 Tryz.call168 [(c182 n).e] [noL 0 (sb (acM [] [] Tryz.f168) 0)] [] [] (jo n)
def c131 (n:Nat):PF Tryz.prog 131 [.s,.sk [88]] (.i .i64):=aK Tryz.func131 Tryz.call131 [(c168 n).e] [] [] [] (nj n)
def c97 (n:Nat):PF Tryz.prog 97 [.s,.sk [88]] (.b):=aK Tryz.func97 Tryz.call97 [(c131 n).e] [] [] [] (iZ n)
def c226 (n:Nat):PF Tryz.prog 226 q125 (.b):=aK Tryz.func226 Tryz.call226 [(c97 n).e] [] [] [] (dm n)
noncomputable def NE (_n:Nat):Ent:=Jz 276
theorem Jr (n:Nat):fH Tryz.prog (NE n):=Ny Tryz.call276 λs h v hv w=>(Tryz.strconv_ParseInt_10_at64_ok s h v hv w).mono λe w' ⟨h1,h2⟩=>⟨h1,h2.elim (λh=>h▸RowKit.Below.refl _ _) (λ⟨t,h⟩=>h▸qD _ _ _)⟩
def c276 (n:Nat):FE Tryz.prog:=libF (Jr n)
def Wa (n:Nat):LP Tryz.prog Tryz.f277.ntmps:=cA [] [] 0 (sb (acM [] [] Tryz.f277) 0) false ⟨[(4,.i .i64),(9,.i .i64),(10,.i .i64)],[],0,0,0,0⟩ [] [⟨.exit 0,q121⟩] (lk n) n
def c277 (n:Nat):PF Tryz.prog 277 [.i .i64] (.tp [.i .i64,.i .i64]):=aK Tryz.func277 Tryz.call277 [] [Wa n] [] [] (o7 n)
def c300 (n:Nat):PF Tryz.prog 300 [.i .i64] (.i .u64):=aK Tryz.func300 Tryz.call300 [] [] [] [] (ug n)
def c299 (n:Nat):PF Tryz.prog 299 [.i .u64,.i .u64] (.tp [.i .u64,.i .u64]):=aK Tryz.func299 Tryz.call299 [] [] [] [] (li n)
def c301 (n:Nat):PF Tryz.prog 301 [.i .u64,.b] (.tp [.i .i64,.i .i64]):=aK Tryz.func301 Tryz.call301 [] [] [] [] (s9 n)
def c278 (n:Nat):PF Tryz.prog 278 [.i .i64,.i .i64] (.tp [.i .i64,.i .i64]):=aK Tryz.func278 Tryz.call278 [(c300 n).e,(c299 n).e,(c301 n).e] [] [] [] (vU n)
def c237 (n:Nat):PF Tryz.prog 237 q125 (.tp [.i .i64,.i .i64]):=aK Tryz.func237 Tryz.call237 [(c276 n),(c277 n).e,(c278 n).e] [] [] [] (ew n)
def c230 (n:Nat):PF Tryz.prog 230 q125 (.b):=aK Tryz.func230 Tryz.call230 [(c228 n).e,(c237 n).e] [] [] [] (aZ n)
def c174 (n:Nat):PF Tryz.prog 174 q125 (.i .i64):=aK Tryz.func174 Tryz.call174 [(c228 n).e,(c229 n).e,(c226 n).e,(c230 n).e] [] [] [] (cD n)
theorem pure_yearforms_Check (n:Nat):∀a r,cD n a.1 a.2.1 a.2.2.1 a.2.2.2.1 a.2.2.2.2=some r->kY Tryz.prog 174 (argP q125 a) (encP (.i .i64) r):=λa r h=>(c174 n).ok a r h
def c193 (n:Nat):PF Tryz.prog 193 q125 (.tp [.i .i64,.i .i64]):=aK Tryz.func193 Tryz.call193 [(c174 n).e,(c226 n).e,(c237 n).e] [] [] [] (eT n)
noncomputable def zC (l:List V):Option (Int):=match l with
 | [.i .i64 a0]=>some (a0)
 | _=>none
noncomputable def LK (n:Nat):Ent:=Dm 266 zC (λa=>fE n a) (λr=>.tp [.i .i64 r.1,.i .i64 r.2.1,.i .i64 r.2.2])
theorem Jp (n:Nat):fH Tryz.prog (LK n):=uk (arg:=λa=>[.i .i64 a]) Tryz.call266 (λl a h=>by
 unfold zC at h
 split at h
 ·cases h;rfl
 ·cases h) (λa=>rfl) (λa r h=>tA n (λx r h=>pure_seasons_Check n x r h) a r h)
def c266 (n:Nat):FE Tryz.prog:=libF (Jp n)
def c279 (n:Nat):PF Tryz.prog 279 [.i .i64] (.i .i64):=aK Tryz.func279 Tryz.call279 [] [] [] [] (jy n)
def c282 (n:Nat):PF Tryz.prog 282 [.i .i64,.i .i64] (.i .i64):=aK Tryz.func282 Tryz.call282 [(c279 n).e] [] [] [] (kK n)
def c311 (n:Nat):PF Tryz.prog 311 [.i .i64,.i .i64] (.tp [.i .i64,.i .i64]):=aK Tryz.func311 Tryz.call311 [] [] [] [] (HC n)
def c292 (n:Nat):PF Tryz.prog 292 [.i .i64,.i .i64] (.tp [.i .i64,.i .i64]):=aK Tryz.func292 Tryz.call292 [(c311 n).e] [] [] [] (mg n)
theorem pure_ints_Div (n:Nat):∀a r,mg n a.1 a.2=some r->kY Tryz.prog 292 (argP [.i .i64,.i .i64] a) (encP (.tp [.i .i64,.i .i64]) r):=λa r h=>(c292 n).ok a r h
noncomputable def zg (l:List V):Option (Int):=match l with
 | [.i .i64 a0]=>some (a0)
 | _=>none
noncomputable def Ob (n:Nat):Ent:=Dm 302 zg (λa=>fD n a) (λr=>.i .i64 r)
theorem Iw (n:Nat):fH Tryz.prog (Ob n):=uk (arg:=λa=>[.i .i64 a]) Tryz.call302 (λl a h=>by
 unfold zg at h
 split at h
 ·cases h;rfl
 ·cases h) (λa=>rfl) (λa r h=>vj n (λx y r h=>pure_ints_Div n (x,y) r h) a r h)
def c302 (n:Nat):FE Tryz.prog:=libF (Iw n)
def c280 (n:Nat):PF Tryz.prog 280 [.i .i64] (.i .i64):=aK Tryz.func280 Tryz.call280 [(c302 n)] [] [] [] (lV n)
def c240 (n:Nat):PF Tryz.prog 240 [.i .i64] (.tp [.i .i64,.i .i64]):=aK Tryz.func240 Tryz.call240 [(c279 n).e,(c280 n).e] [] [] [] (l8 n)
def c303 (n:Nat):PF Tryz.prog 303 [.i .i64] (.tp [.b,.i .i64]):=aK Tryz.func303 Tryz.call303 [(c279 n).e,(c302 n)] [] [] [] (kL n)
theorem pure_years_Leap (n:Nat):∀a r,kL n a=some r->kY Tryz.prog 303 (argP [.i .i64] a) (encP (.tp [.b,.i .i64]) r):=λa r h=>(c303 n).ok a r h
noncomputable def zV (l:List V):Option (Int×Int):=match l with
 | [.i .i64 a0,.i .i64 a1]=>some (a0,a1)
 | _=>none
noncomputable def Lr (n:Nat):Ent:=Dm 283 zV (λa=>eH n a.1 a.2) (λr=>.i .i64 r)
theorem IN (n:Nat):fH Tryz.prog (Lr n):=uk (arg:=λa=>[.i .i64 a.1,.i .i64 a.2]) Tryz.call283 (λl a h=>by
 unfold zV at h
 split at h
 ·cases h;rfl
 ·cases h) (λa=>rfl) (λa r h=>tW n (λx r h=>pure_years_Leap n x r h) a.1 a.2 r h)
def c283 (n:Nat):FE Tryz.prog:=libF (IN n)
def Wb (n:Nat):List (FE Tryz.prog):=[(c282 n).e,(c240 n).e,(c283 n)]
def Vv (n:Nat):LP Tryz.prog Tryz.f244.ntmps:=cA (Wb n) [] 0 (sb (acM [] [] Tryz.f244) 0) false ⟨[(0,.i .i64),(7,.i .i64),(22,.i .i64),(23,.i .i64)],[],0,0,0,0⟩ [] [⟨.exit 0,⟨[(7,.i .i64)],[],0,0,0,0⟩⟩] (bJ n) n
def c244 (n:Nat):PF Tryz.prog 244 [.i .i64,.i .i64] (.tp [.i .i64,.i .i64]):=aK Tryz.func244 Tryz.call244 (Wb n) [Vv n] [] [] (fG n)
noncomputable def zM (l:List V):Option (Int×Int):=match l with
 | [.i .i64 a0,.i .i64 a1]=>some (a0,a1)
 | _=>none
noncomputable def MP (n:Nat):Ent:=Dm 291 zM (λa=>sc n a.1 a.2) (λr=>.tp [.i .i64 r.1,.i .i64 r.2])
theorem Jc (n:Nat):fH Tryz.prog (MP n):=uk (arg:=λa=>[.i .i64 a.1,.i .i64 a.2]) Tryz.call291 (λl a h=>by
 unfold zM at h
 split at h
 ·cases h;rfl
 ·cases h) (λa=>rfl) (λa r h=>AS n a.1 a.2 r h)
def c291 (n:Nat):FE Tryz.prog:=libF (Jc n)
def c293 (n:Nat):PF Tryz.prog 293 [.i .i64,.i .i64] (.tp [.i .i64,.i .i64]):=aK Tryz.func293 Tryz.call293 [] [] [] [] (vW n)
def c267 (n:Nat):PF Tryz.prog 267 [.i .i64,.i .i64,.i .i64] (.tp [.i .i64,.i .i64,.i .i64]):=aK Tryz.func267 Tryz.call267 [(c282 n).e,(c291 n),(c292 n).e,(c293 n).e,(c279 n).e] [] [] [] (pC n)
def c245 (n:Nat):PF Tryz.prog 245 [.i .i64,.i .i64] (.tp [.i .i64,.i .i64]):=aK Tryz.func245 Tryz.call245 [(c244 n).e,(c283 n)] [] [] [] (il n)
def c227 (n:Nat):PF Tryz.prog 227 [.i .i64,.i .i64] (.tp [.ag q65,.i .i64]):=aK Tryz.func227 Tryz.call227 [(c266 n),(c244 n).e,(c267 n).e,(c245 n).e] [] [] [] (iD n)
def c169 (n:Nat):PF Tryz.prog 169 q88 (.b):=aK Tryz.func169 Tryz.call169 [(c174 n).e,(c55 n).e,(c226 n).e,(c193 n).e,(c227 n).e] [] [] [] (fM n)
def UW (n:Nat):LP Tryz.prog Tryz.f170.ntmps:=cA [] [] 0 (sb (acM [] [] Tryz.f170) 0) false q130 [] [⟨.ret,⟨[(4,.b)],[],0,0,0,0⟩⟩,⟨.exit 0,q117⟩] (dw n) n
def c170 (n:Nat):PF Tryz.prog 170 q30 (.b):=aK Tryz.func170 Tryz.call170 [] [UW n] [] [] (dl n)
def Xz (n:Nat):LP Tryz.prog Tryz.f56.ntmps:=cA [] [] 0 (sb (acM [] [] Tryz.f56) 0) false ⟨[(3,.i .i64),(10,.ag [.s,.s]),(11,.i .i64)],[],1,0,0,0⟩ [] [⟨.exit 0,⟨[(3,.i .i64)],[],1,0,0,0⟩⟩] (bW n) n
def c56 (n:Nat):PF Tryz.prog 56 q88 (.i .i64):=aK Tryz.func56 Tryz.call56 [] [Xz n] [] [] (bC n)
def c136 (n:Nat):PF Tryz.prog 136 q88 (.i .i64):=aK Tryz.func136 Tryz.call136 [(c55 n).e,(c169 n).e,(c170 n).e,(c56 n).e,(c171 n).e] [] [] [] (jv n)
def c260 (n:Nat):PF Tryz.prog 260 q30 (.b):=aK Tryz.func260 Tryz.call260 [] [] [] [] (lz n)
def U4 (n:Nat):List (FE Tryz.prog):=[(c260 n).e]
def VK (n:Nat):LP Tryz.prog Tryz.f208.ntmps:=cA (U4 n) [] 0 (sb (acM [] [] Tryz.f208) 0) false ⟨[(0,.s),(5,.ws 0),(7,.i .i64),(8,.i .i64)],q81,1,0,0,0⟩ [.nilT 5 0 [.i .i64]] [⟨.exit 0,⟨[(5,.ws 0)],q81,1,0,0,0⟩⟩] (gj n) n
def c208 (n:Nat):FF Tryz.prog 208 q30 [] 0 0 [⟨.ws 0,q81,[0],false⟩]:=funC Tryz.func208 Tryz.call208 (U4 n) [VK n] [] [] [] (fh n)
def c154 (n:Nat):FF Tryz.prog 154 q88 [] 0 0 [⟨.ag q37,[(0,.rows [.i .i64]),(1,.rows [.i .i64])],[0,1],false⟩]:=funC Tryz.func154 Tryz.call154 [(c55 n).e,(c208 n).e] [] [] [] [] (pR n)
def c209 (n:Nat):FF Tryz.prog 209 [.ws 0] q98 1 1 [⟨.ws 1,[(1,.rows [.i .i64])],[1],false⟩]:=funC Tryz.func209 Tryz.call209 [] [] [] [] [0] (jQ n)
def VQ (n:Nat):LP Tryz.prog Tryz.f210.ntmps:=cA [] [] 0 (sb (acM [] [] Tryz.f210) 0) false ⟨[(0,.ws 0),(2,.i .i64),(3,.i .i64)],q81,1,1,0,1⟩ [] [⟨.exit 0,⟨[],q81,1,1,0,1⟩⟩] (jX n) n
def c210 (n:Nat):FF Tryz.prog 210 [.ws 0] q98 0 1 [⟨.tp [],q81,[],false⟩]:=funC Tryz.func210 Tryz.call210 [] [VQ n] [] [] [0] (jg n)
def W9 (n:Nat):LP Tryz.prog Tryz.f305.ntmps:=cA [] [] 0 (sb (acM [] [] Tryz.f305) 0) false ⟨[(0,.s),(9,.p 0 0)],[(0,.iter)],1,0,0,0⟩ [] [⟨.ret,q106⟩,⟨.exit 0,⟨[(0,.s)],[],1,0,0,0⟩⟩] (jc n) n
def c305 (n:Nat):PF Tryz.prog 305 [.s] (.i .i64):=aK Tryz.func305 Tryz.call305 [] [W9 n] [] [] (kI n)
def Vw (n:Nat):LP Tryz.prog Tryz.f317.ntmps:=cA [] [] 0 (sb (acM [] [] Tryz.f317) 0) false ⟨[(1,.i .u8),(5,.i .i64),(9,.ws 0),(10,.i .i64),(11,.i .i64)],[(0,.rows [.i .u8])],1,0,0,0⟩ [] [⟨.exit 0,⟨[(5,.i .i64)],[],1,0,0,0⟩⟩] (g9 n) n
def c317 (n:Nat):PF Tryz.prog 317 [.s,.i .u8] (.i .i64):=aK Tryz.func317 Tryz.call317 [] [Vw n] [] [] (mz n)
def c306 (n:Nat):PF Tryz.prog 306 [.s] (.tp [.i .i64,.i .i64]):=aK Tryz.func306 Tryz.call306 [(c305 n).e,(c317 n).e] [] [] [] (qa n)
def c318 (n:Nat):PF Tryz.prog 318 [.i .i64] (.i .i64):=aK Tryz.func318 Tryz.call318 [(c277 n).e] [] [] [] (qg n)
def c307 (n:Nat):PF Tryz.prog 307 q30 (.b):=aK Tryz.func307 Tryz.call307 [(c318 n).e] [] [] [] (mR n)
def Vq (n:Nat):LP Tryz.prog Tryz.f319.ntmps:=cA [] [] 0 (sb (acM [] [] Tryz.f319) 0) false ⟨[(1,.i .i64),(4,.p 0 0),(5,.i .i64)],[(0,.ints .u8 18)],1,0,0,0⟩ [] [⟨.exit 0,⟨[(4,.p 0 0)],[(0,.ints .u8 18)],1,0,0,0⟩⟩] (je n) n
def c319 (n:Nat):PF Tryz.prog 319 q30 (.ai .u8 18):=aK Tryz.func319 Tryz.call319 [] [Vq n] [] [] (l9 n)
def c320 (n:Nat):PF Tryz.prog 320 [.s,.ai .u8 18] (.i .i64):=aK Tryz.func320 Tryz.call320 [(c317 n).e] [] [] [] (gG n)
def PR (n:Nat):List (FE Tryz.prog):=[(c319 n).e,(c320 n).e]
def U3 (n:Nat):LP Tryz.prog Tryz.f308.ntmps:=cA (PR n) [] 0 (sb (acM [] [] Tryz.f308) 0) false q76 [] [⟨.exit 0,q76⟩] (fL n) n
def Vn (n:Nat):LP Tryz.prog Tryz.f308.ntmps:=cA (PR n) [] 1 (sb (acM [] [] Tryz.f308) 1) false ⟨[(0,.s),(2,.b),(8,.i .u8),(9,.i .u8),(10,.p 0 0),(11,.p 1 0),(12,.i .i64)],[(0,.ints .u8 18),(1,.ints .u8 18)],74,0,0,0⟩ [] [⟨.ret,⟨[(6,.i .i64),(7,.i .i64)],[],74,0,0,0⟩⟩,⟨.exit 2,⟨[(0,.s),(2,.b),(8,.i .u8),(11,.p 1 0),(12,.i .i64)],[(1,.ints .u8 18)],74,0,0,0⟩⟩] (cG n) n
def WY (n:Nat):LP Tryz.prog Tryz.f308.ntmps:=cA (PR n) [] 2 (sb (acM [] [] Tryz.f308) 2) false ⟨[(0,.s),(8,.i .u8),(11,.p 1 0),(12,.i .i64)],[(1,.ints .u8 18)],74,0,0,0⟩ [] [⟨.exit 5,⟨[(0,.s),(11,.p 1 0)],[(1,.ints .u8 18)],74,0,0,0⟩⟩] (bz n) n
def c308 (n:Nat):PF Tryz.prog 308 [.s,.i .i64,.b] (.tp [.i .i64,.i .i64]):=aK Tryz.func308 Tryz.call308 (PR n) [U3 n,Vn n,WY n] [] [] (dD n)
def c289 (n:Nat):PF Tryz.prog 289 q30 (.tp [.i .i64,.i .i64]):=aK Tryz.func289 Tryz.call289 [(c305 n).e,(c306 n).e,(c307 n).e,(c308 n).e] [] [] [] (rP n)
def c309 (n:Nat):PF Tryz.prog 309 [.s] (.tp [.i .i64,.i .i64]):=aK Tryz.func309 Tryz.call309 [(c305 n).e,(c317 n).e] [] [] [] (mj n)
def c290 (n:Nat):PF Tryz.prog 290 q30 (.tp [.i .i64,.i .i64]):=aK Tryz.func290 Tryz.call290 [(c305 n).e,(c307 n).e,(c309 n).e,(c308 n).e] [] [] [] (rU n)
def c261 (n:Nat):PF Tryz.prog 261 [.s,.i .i64,.b,.i .i64] (.tp [.i .i64,.b]):=aK Tryz.func261 Tryz.call261 [(c289 n).e,(c290 n).e] [] [] [] (fS n)
def c212 (n:Nat):FF Tryz.prog 212 [.ag q37,.i .i64,.b] q114 2 2 [⟨.tp [.i .i64,.b],[],[],false⟩]:=funC Tryz.func212 Tryz.call212 [(c226 n).e,(c193 n).e,(c261 n).e] [] [] [] [0,1] (cq n)
def c211 (n:Nat):FF Tryz.prog 211 [.i .i64,.i .i64,.p 0 0] [.cells [.b]] 1 1 [⟨.b,[],[],false⟩]:=funC Tryz.func211 Tryz.call211 [] [] [] [] [0] (cP n)
def c262 (n:Nat):PF Tryz.prog 262 [.i .i64,.i .i64] (.tp [.i .i64,.i .i64]):=aK Tryz.func262 Tryz.call262 [(c282 n).e,(c283 n)] [] [] [] (oY n)
def c213 (n:Nat):FF Tryz.prog 213 [.ag q37,.i .i64,.i .i64] q114 2 2 [⟨.i .i64,[],[],false⟩]:=funC Tryz.func213 Tryz.call213 [(c262 n).e] [] [] [] [0,1] (fg n)
def sF (n:Nat):List (FE Tryz.prog):=[(c209 n).e,(c210 n).e,(c212 n).e,(c211 n).e,(c213 n).e]
def Uy (n:Nat):LP Tryz.prog Tryz.f155.ntmps:=fi (sF n) [] 1003 (sb (acM [] [3,17,20,23,30] Tryz.f155) 1003) false ⟨[(3,.p 2 0),(4,.p 3 0),(5,.p 4 0),(6,.p 5 0),(8,.ik .i64 1),(9,.ws 0),(10,.ws 1),(25,.b)],q70,62,2,2,2⟩ [⟨.nrm,⟨[(3,.p 2 0),(4,.p 3 0),(5,.p 4 0),(6,.p 5 0),(8,.ik .i64 (-1)),(9,.ws 62),(10,.ws 63)],[(0,.rows [.i .i64]),(1,.rows [.i .i64]),(2,.cells q37),(3,.cells [.i .i64,.i .i64,.i .i64]),(4,.cells [.b]),(5,.cells [.ik .i64 0,.ik .i64 0,.ik .i64 0]),(62,.rows [.i .i64]),(63,.rows [.i .i64])],64,2,2,2⟩⟩,⟨.nrm,⟨[(3,.p 2 0),(4,.p 3 0),(5,.p 4 0),(6,.p 5 0),(8,.ik .i64 1),(9,.ws 0),(10,.ws 1)],q70,62,2,2,2⟩⟩] (js n)
def JD (n:Nat):LP Tryz.prog Tryz.f155.ntmps:=fi (sF n) [] 1020 (sb (sb (sb (sb (acM [] [3,17,20,23,30] Tryz.f155) 0).body 1).body 1017) 1020) false ⟨[(3,.p 2 0),(4,.p 3 0),(5,.p 4 0),(6,.p 5 0),(8,.i .i64),(9,.ws 62),(10,.ws 63),(11,.fn 211 [.p 4 0]),(12,.i .i64),(15,.i .i64),(16,.b),(53,.ws 62),(54,.i .i64),(55,.i .i64)],q15,64,2,2,2⟩ [⟨.nrm,⟨[(3,.p 2 0),(4,.p 3 0),(5,.p 4 0),(6,.p 5 0),(8,.i .i64),(9,.ws 62),(10,.ws 63),(11,.fn 211 [.p 4 0]),(12,.i .i64),(15,.i .i64),(16,.b),(53,.ws 62),(54,.i .i64),(55,.i .i64),(76,.b)],q15,64,2,2,2⟩⟩] (lK n)
def H8 (n:Nat):LP Tryz.prog Tryz.f155.ntmps:=fi (sF n) [] 1020 (sb (sb (sb (sb (acM [] [3,17,20,23,30] Tryz.f155) 0).body 1).body 1017) 1020) false ⟨[(3,.p 2 0),(4,.p 3 0),(5,.p 4 0),(6,.p 5 0),(8,.i .i64),(9,.ws 0),(10,.ws 1),(11,.fn 211 [.p 4 0]),(12,.i .i64),(15,.i .i64),(16,.b),(53,.ws 0),(54,.i .i64),(55,.i .i64)],q18,62,2,2,2⟩ [⟨.nrm,⟨[(3,.p 2 0),(4,.p 3 0),(5,.p 4 0),(6,.p 5 0),(8,.i .i64),(9,.ws 0),(10,.ws 1),(11,.fn 211 [.p 4 0]),(12,.i .i64),(15,.i .i64),(16,.b),(53,.ws 0),(54,.i .i64),(55,.i .i64),(76,.b)],q18,62,2,2,2⟩⟩] (fm n)
def MI (n:Nat):LP Tryz.prog Tryz.f155.ntmps:=fi (sF n) [] 1023 (sb (sb (sb (sb (acM [] [3,17,20,23,30] Tryz.f155) 0).body 1).body 1017) 1023) false q60 [⟨.nrm,q60⟩] (lL n)
def Gx (n:Nat):LP Tryz.prog Tryz.f155.ntmps:=fi (sF n) [] 1023 (sb (sb (sb (sb (acM [] [3,17,20,23,30] Tryz.f155) 0).body 1).body 1017) 1023) false q61 [⟨.nrm,q61⟩] (fC n)
def Jw (n:Nat):LP Tryz.prog Tryz.f155.ntmps:=fi (sF n) [] 1030 (sb (sb (sb (sb (sb (acM [] [3,17,20,23,30] Tryz.f155) 0).body 1).body 1017) 2).body 1030) false ⟨[(3,.p 2 0),(4,.p 3 0),(5,.p 4 0),(6,.p 5 0),(8,.i .i64),(9,.ws 62),(10,.ws 63),(11,.fn 211 [.p 4 0]),(12,.i .i64),(15,.i .i64),(16,.b),(17,.i .i64),(19,.i .i64),(53,.ws 62),(54,.i .i64),(55,.i .i64),(94,.ws 63),(95,.i .i64),(96,.i .i64)],q15,64,2,2,2⟩ [⟨.nrm,⟨[(3,.p 2 0),(4,.p 3 0),(5,.p 4 0),(6,.p 5 0),(8,.i .i64),(9,.ws 62),(10,.ws 63),(11,.fn 211 [.p 4 0]),(12,.i .i64),(15,.i .i64),(16,.b),(17,.i .i64),(19,.i .i64),(53,.ws 62),(54,.i .i64),(55,.i .i64),(94,.ws 63),(95,.i .i64),(96,.i .i64),(119,.b)],q15,64,2,2,2⟩⟩] (lP n)
def Gy (n:Nat):LP Tryz.prog Tryz.f155.ntmps:=fi (sF n) [] 1030 (sb (sb (sb (sb (sb (acM [] [3,17,20,23,30] Tryz.f155) 0).body 1).body 1017) 2).body 1030) false ⟨[(3,.p 2 0),(4,.p 3 0),(5,.p 4 0),(6,.p 5 0),(8,.i .i64),(9,.ws 0),(10,.ws 1),(11,.fn 211 [.p 4 0]),(12,.i .i64),(15,.i .i64),(16,.b),(17,.i .i64),(19,.i .i64),(53,.ws 0),(54,.i .i64),(55,.i .i64),(94,.ws 1),(95,.i .i64),(96,.i .i64)],q18,62,2,2,2⟩ [⟨.nrm,⟨[(3,.p 2 0),(4,.p 3 0),(5,.p 4 0),(6,.p 5 0),(8,.i .i64),(9,.ws 0),(10,.ws 1),(11,.fn 211 [.p 4 0]),(12,.i .i64),(15,.i .i64),(16,.b),(17,.i .i64),(19,.i .i64),(53,.ws 0),(54,.i .i64),(55,.i .i64),(94,.ws 1),(95,.i .i64),(96,.i .i64),(119,.b)],q18,62,2,2,2⟩⟩] (iH n)
def QG (n:Nat):LP Tryz.prog Tryz.f155.ntmps:=cA (sF n) [altL (Jw n) (Gy n) rfl] 2 (sb (sb (sb (sb (acM [] [3,17,20,23,30] Tryz.f155) 0).body 1).body 1017) 2) false ⟨[(3,.p 2 0),(4,.p 3 0),(5,.p 4 0),(6,.p 5 0),(8,.i .i64),(9,.ws 62),(10,.ws 63),(11,.fn 211 [.p 4 0]),(12,.i .i64),(15,.i .i64),(16,.b),(17,.i .i64),(53,.ws 62),(54,.i .i64),(55,.i .i64),(94,.ws 63),(95,.i .i64),(96,.i .i64)],q15,64,2,2,2⟩ [] [⟨.ret,q127⟩,⟨.exit 4,q36⟩] (mQ n) n
def LZ (n:Nat):LP Tryz.prog Tryz.f155.ntmps:=cA (sF n) [altL (Jw n) (Gy n) rfl] 2 (sb (sb (sb (sb (acM [] [3,17,20,23,30] Tryz.f155) 0).body 1).body 1017) 2) false ⟨[(3,.p 2 0),(4,.p 3 0),(5,.p 4 0),(6,.p 5 0),(8,.i .i64),(9,.ws 0),(10,.ws 1),(11,.fn 211 [.p 4 0]),(12,.i .i64),(15,.i .i64),(16,.b),(17,.i .i64),(53,.ws 0),(54,.i .i64),(55,.i .i64),(94,.ws 1),(95,.i .i64),(96,.i .i64)],q18,62,2,2,2⟩ [] [⟨.ret,q128⟩,⟨.exit 4,q39⟩] (bM n) n
def KB (n:Nat):LP Tryz.prog Tryz.f155.ntmps:=fi (sF n) [altL (JD n) (H8 n) rfl,altL (MI n) (Gx n) rfl,altL (QG n) (LZ n) rfl] 1017 (sb (sb (sb (acM [] [3,17,20,23,30] Tryz.f155) 0).body 1).body 1017) false q36 [⟨.nrm,q36⟩,⟨.ret,q127⟩] (lO n)
def Ho (n:Nat):LP Tryz.prog Tryz.f155.ntmps:=fi (sF n) [altL (JD n) (H8 n) rfl,altL (MI n) (Gx n) rfl,altL (QG n) (LZ n) rfl] 1017 (sb (sb (sb (acM [] [3,17,20,23,30] Tryz.f155) 0).body 1).body 1017) false q39 [⟨.nrm,q39⟩,⟨.ret,q128⟩] (iy n)
def QN (n:Nat):LP Tryz.prog Tryz.f155.ntmps:=cA (sF n) [altL (KB n) (Ho n) rfl] 1 (sb (sb (acM [] [3,17,20,23,30] Tryz.f155) 0).body 1) false q36 [] [⟨.ret,q127⟩,⟨.exit 2,⟨[(3,.p 2 0),(4,.p 3 0),(5,.p 4 0),(6,.p 5 0),(8,.i .i64),(9,.ws 62),(10,.ws 63),(11,.fn 211 [.p 4 0]),(12,.i .i64)],q15,64,2,2,2⟩⟩] (mA n) n
def MO (n:Nat):LP Tryz.prog Tryz.f155.ntmps:=cA (sF n) [altL (KB n) (Ho n) rfl] 1 (sb (sb (acM [] [3,17,20,23,30] Tryz.f155) 0).body 1) false q39 [] [⟨.ret,q128⟩,⟨.exit 2,⟨[(3,.p 2 0),(4,.p 3 0),(5,.p 4 0),(6,.p 5 0),(8,.i .i64),(9,.ws 0),(10,.ws 1),(11,.fn 211 [.p 4 0]),(12,.i .i64)],q18,62,2,2,2⟩⟩] (cj n) n
def VS (n:Nat):LP Tryz.prog Tryz.f155.ntmps:=cA (sF n) [altL (QN n) (MO n) rfl] 0 (sb (acM [] [3,17,20,23,30] Tryz.f155) 0) false ⟨[(3,.p 2 0),(4,.p 3 0),(5,.p 4 0),(6,.p 5 0),(8,.i .i64),(9,.ws 62),(10,.ws 63),(11,.fn 211 [.p 4 0]),(12,.i .i64),(13,.b)],q15,64,2,2,2⟩ [] [⟨.ret,q127⟩,⟨.exit 0,⟨[(6,.p 5 0)],q49,64,2,2,2⟩⟩] (mS n) n
def Ti (n:Nat):LP Tryz.prog Tryz.f155.ntmps:=cA (sF n) [altL (QN n) (MO n) rfl] 0 (sb (acM [] [3,17,20,23,30] Tryz.f155) 0) false ⟨[(3,.p 2 0),(4,.p 3 0),(5,.p 4 0),(6,.p 5 0),(8,.i .i64),(9,.ws 0),(10,.ws 1),(11,.fn 211 [.p 4 0]),(12,.i .i64),(13,.b)],q18,62,2,2,2⟩ [] [⟨.ret,q128⟩,⟨.exit 0,⟨[(6,.p 5 0)],q49,62,2,2,2⟩⟩] (cZ n) n
def c155 (n:Nat):FF Tryz.prog 155 [.ag q37,.ag [.i .i64,.i .i64,.i .i64],.b] q114 2 2 [⟨.tp [.ag [.i .i64,.i .i64,.i .i64],.b],[],[],false⟩]:=funC Tryz.func155 Tryz.call155 (sF n) [Uy n,altL (VS n) (Ti n) rfl] [] [3,17,20,23,30] [0,1] (jl n)
def c119 (n:Nat):PF Tryz.prog 119 q88 (.i .i64):=aK Tryz.func119 Tryz.call119 [(c136 n).e,(c154 n).e,(c155 n).e] [] [] [] (bB n)
def c112 (n:Nat):FF Tryz.prog 112 [.p 0 0] q90 0 1 [⟨.it 129 (.ag [.i .i64,.i .i64]),q54,[],true⟩,⟨.tp [.ag q21,.i .i64],q54,[],false⟩]:=funC Tryz.func112 Tryz.call112 [(c144 n).e,(c119 n).e,(c110 n).e] [] [] [] [0] (iK n)
def c75E (n:Nat):List (FE Tryz.prog):=[(c73 n).e,(c107 n).e,(c111 n).e,(c110 n).e]
def Yf (n:Nat):LP Tryz.prog Tryz.f75.ntmps:=cA (c75E n) [] 0 (sb (acM [] [] Tryz.f75) 0) false ⟨[(0,.p 0 0),(1,.s),(4,.i .i64),(5,.s)],q54,1,1,0,1⟩ [] [⟨.exit 0,⟨[(0,.p 0 0),(4,.i .i64)],q54,1,1,0,1⟩⟩] (ee n) n
def c75 (n:Nat):FF Tryz.prog 75 [.p 0 0,.s] q90 0 1 [⟨.tp [],q54,[],false⟩,⟨.it 129 (.ag [.i .i64,.i .i64]),q54,[],true⟩]:=funC Tryz.func75 Tryz.call75 (c75E n) [Yf n] [] [] [0] (bX n)
def c114 (n:Nat):FF Tryz.prog 114 [.ws 0] q72 1 1 [⟨.rs 21 0 0 .q (some .q),[],[],false⟩]:=funC Tryz.func114 Tryz.call114 [] [] [] [] [0] (bH n)
def c118 (n:Nat):FF Tryz.prog 118 [.ag q19] q72 1 1 [⟨.b,[],[],false⟩]:=funC Tryz.func118 Tryz.call118 [] [] [] [] [0] (oH n)
def c57 (n:Nat):PF Tryz.prog 57 q88 (.b):=aK Tryz.func57 Tryz.call57 [(c97 n).e] [] [] [] (eZ n)
def c153 (n:Nat):PF Tryz.prog 153 q88 (.b):=aK Tryz.func153 Tryz.call153 [(c57 n).e] [] [] [] (mD n)
def c117 (n:Nat):PF Tryz.prog 117 [.ag q42] (.i .i64):=aK Tryz.func117 Tryz.call117 [(c119 n).e,(c153 n).e] [] [] [] (iv n)
def c194 (n:Nat):FF Tryz.prog 194 [] [] 0 0 [⟨.mp 0,[(0,.mp .u8 [(0,238),(1,239),(2,243),(3,246)])],[0],false⟩]:=funC Tryz.func194 Tryz.call194 [] [] [] [] [] (jC n)
def c195 (n:Nat):PF Tryz.prog 195 q88 (.i .u8):=aK Tryz.func195 Tryz.call195 [(c55 n).e] [] [] [] (bh n)
def c238 (n:Nat):FF Tryz.prog 238 [.i .i64,.ws 0] q98 1 1 [⟨.ag q65,[],[],false⟩]:=funC Tryz.func238 Tryz.call238 [(c227 n).e] [] [] [] [0] (gv n)
def c241 (n:Nat):PF Tryz.prog 241 [.i .i64] (.tp [.i .i64,.i .i64]):=aK Tryz.func241 Tryz.call241 [(c279 n).e,(c280 n).e] [] [] [] (tV n)
def c281 (n:Nat):PF Tryz.prog 281 [.i .i64] (.ag [.i .i8,.i .i64]):=aK Tryz.func281 Tryz.call281 [] [] [] [] (ED n)
def c242 (n:Nat):PF Tryz.prog 242 [.i .i64,.i .i64] (.ag q65):=aK Tryz.func242 Tryz.call242 [(c281 n).e] [] [] [] (so n)
def c239 (n:Nat):FF Tryz.prog 239 [.i .i64,.ws 0] q98 1 1 [⟨.ag q65,[],[],false⟩]:=funC Tryz.func239 Tryz.call239 [(c240 n).e,(c241 n).e,(c242 n).e] [] [] [] [0] (gD n)
def c243 (n:Nat):FF Tryz.prog 243 [.i .i64,.ws 0] q98 1 1 [⟨.ag q65,[],[],false⟩]:=funC Tryz.func243 Tryz.call243 [(c244 n).e,(c245 n).e,(c242 n).e] [] [] [] [0] (gI n)
def c284 (n:Nat):PF Tryz.prog 284 [.ag [.i .i64,.i .i64,.i .i64]] (.i .i64):=aK Tryz.func284 Tryz.call284 [(c262 n).e] [] [] [] (qT n)
def c247 (n:Nat):PF Tryz.prog 247 [.ag [.i .i64,.i .i64,.i .i64]] (.tp [.i .i64,.i .i64]):=aK Tryz.func247 Tryz.call247 [(c284 n).e,(c244 n).e] [] [] [] (sj n)
def c246 (n:Nat):FF Tryz.prog 246 [.i .i64,.ws 0] q98 1 1 [⟨.ag q65,[],[],false⟩]:=funC Tryz.func246 Tryz.call246 [(c247 n).e,(c242 n).e] [] [] [] [0] (gJ n)
def c146 (n:Nat):PF Tryz.prog 146 q88 (.tp [.ag q65,.i .i64]):=aK Tryz.func146 Tryz.call146 [(c119 n).e,(c153 n).e,(c193 n).e,(c95 n),(c194 n).e,(c195 n).e,(c238 n).e,(c239 n).e,(c243 n).e,(c246 n).e] [] [] [] (gF n)
def c248 (n:Nat):PF Tryz.prog 248 [.i .i8] (.b):=aK Tryz.func248 Tryz.call248 [] [] [] [] (oP n)
def c197 (n:Nat):PF Tryz.prog 197 [.i .i8,.i .i8] (.i .i64):=aK Tryz.func197 Tryz.call197 [(c248 n).e] [] [] [] (mY n)
def c249 (n:Nat):PF Tryz.prog 249 [.i .i64] (.b):=aK Tryz.func249 Tryz.call249 [] [] [] [] (kW n)
def c198 (n:Nat):PF Tryz.prog 198 [.i .i64,.i .i64] (.i .i64):=aK Tryz.func198 Tryz.call198 [(c249 n).e] [] [] [] (jF n)
def UI (n:Nat):LP Tryz.prog Tryz.f196.ntmps:=cA [] [] 0 (sb (acM [] [] Tryz.f196) 0) false ⟨[(3,.i .i64),(6,.ws 0),(7,.i .i64),(8,.i .i64)],q81,1,1,1,1⟩ [] [⟨.ret,⟨[(2,.i .i64)],[],1,1,1,1⟩⟩,⟨.exit 0,⟨[(3,.i .i64)],[],1,1,1,1⟩⟩] (uv n) n
def c196 (n:Nat):FF Tryz.prog 196 [.ws 0] q98 1 1 [⟨.i .i64,[],[],false⟩]:=funC Tryz.func196 Tryz.call196 [] [UI n] [] [] [0] (pg n)
def c147 (n:Nat):PF Tryz.prog 147 [.ag [.i .i8,.i .i64],.ag [.i .i8,.i .i64]] (.i .i64):=aK Tryz.func147 Tryz.call147 [(c197 n).e,(c198 n).e,(c196 n).e] [] [] [] (kS n)
def c115 (n:Nat):PF Tryz.prog 115 [.ag q42,.ag q42] (.i .i64):=aK Tryz.func115 Tryz.call115 [(c117 n).e,(c146 n).e,(c147 n).e] [] [0] [] (iU n)
def c214 (n:Nat):FF Tryz.prog 214 [.p 0 0] [.cells q20] 1 1 [⟨.b,[],[],false⟩]:=funC Tryz.func214 Tryz.call214 [] [] [] [] [0] (rt n)
def c218 (n:Nat):PF Tryz.prog 218 [.ag q33] (.b):=aK Tryz.func218 Tryz.call218 [(c57 n).e] [] [] [] (nT n)
def c219 (n:Nat):PF Tryz.prog 219 [.ag q33] (.b):=aK Tryz.func219 Tryz.call219 [(c119 n).e,(c218 n).e,(c195 n).e] [] [] [] (lW n)
def c216 (n:Nat):PF Tryz.prog 216 [.ag q33,.ag q33] (.b):=aK Tryz.func216 Tryz.call216 [(c219 n).e,(c195 n).e,(c146 n).e,(c147 n).e] [] [] [] (nr n)
def c215 (n:Nat):FF Tryz.prog 215 [.p 0 0] [.cells q20] 1 1 [⟨.b,[],[],false⟩]:=funC Tryz.func215 Tryz.call215 [(c216 n).e] [] [] [] [0] (rJ n)
def c217 (n:Nat):FF Tryz.prog 217 q116 [.cells [.i .u8],.cells q20] 2 2 [⟨.b,[],[],false⟩]:=funC Tryz.func217 Tryz.call217 [(c218 n).e] [] [] [] [0,1] (qM n)
def c156 (n:Nat):FF Tryz.prog 156 [.sl 0 0 3 (some (.k 3))] [.cells [.i .i64,.fn 214 [.p 1 0],.i .i64,.fn 215 [.p 1 0],.i .i64,.fn 217 [.p 2 0,.p 1 0]],.cells q20,.cells [.i .u8]] 3 3 [⟨.i .i64,[],[],false⟩]:=funC Tryz.func156 Tryz.call156 [(c214 n).e,(c215 n).e,(c217 n).e] [] [0] [] [0,1,2] (eI n)
def c157 (n:Nat):PF Tryz.prog 157 [.ag q20,.i .u8] (.i .i64):=aK Tryz.func157 Tryz.call157 [(c119 n).e,(c156 n).e] [] [] [] (gf n)
def c158 (n:Nat):FF Tryz.prog 158 q116 [.cells q20,.cells q57,.rows q11] 3 3 [⟨.b,[],[],false⟩]:=funC Tryz.func158 Tryz.call158 [(c157 n).e] [] [] [] [0,1,2] (rK n)
def c160 (n:Nat):PF Tryz.prog 160 [.ag q20] (.b):=aK Tryz.func160 Tryz.call160 [(c219 n).e] [] [] [] (om n)
def c159 (n:Nat):FF Tryz.prog 159 [.p 0 0,.p 1 0,.p 2 0] [.cells [.i .u8,.bd,.b,.s,.i .i64,.i .i64,.s,.s,.i .u8,.i .u8,.i .u8,.i .u8,.bd,.b,.s,.i .i64,.i .i64,.s,.s,.i .u8,.i .u8,.i .u8,.i .u8,.bd,.b,.s,.i .i64,.i .i64,.s,.s,.i .u8,.i .u8,.i .u8,.rs 21 3 0 .q (some .q),.b,.b],.cells [.i .i64],.cells q20,.rows q11] 4 4 [⟨.b,[],[],false⟩]:=funC Tryz.func159 Tryz.call159 [(c160 n).e] [] [] [] [0,1,2,3] (rL n)
def c161 (n:Nat):FF Tryz.prog 161 [.p 0 0,.p 1 0,.p 2 0,.p 3 0] [.cells [.i .u8,.bd,.b,.s,.i .i64,.i .i64,.s,.s,.i .u8,.i .u8,.i .u8,.i .u8,.bd,.b,.s,.i .i64,.i .i64,.s,.s,.i .u8,.i .u8,.i .u8,.i .u8,.bd,.b,.s,.i .i64,.i .i64,.s,.s,.i .u8,.i .u8,.i .u8,.rs 21 4 0 .q (some .q),.b,.b],.cells [.i .i64],.cells [.i .i64],.cells q20,.rows q11] 5 5 [⟨.b,[],[],false⟩]:=funC Tryz.func161 Tryz.call161 [(c160 n).e] [] [] [] [0,1,2,3,4] (qX n)
def c162 (n:Nat):FF Tryz.prog 162 q116 [.cells q57,.cells [.i .i64],.rows q11] 3 3 [⟨.b,[],[],false⟩]:=funC Tryz.func162 Tryz.call162 [] [] [] [] [0,1,2] (rD n)
def VW (n:Nat):FF Tryz.prog 156 [.sl 0 0 4 (some (.k 4))] [.cells q71,.cells q20,.cells [.i .u8,.bd,.b,.s,.i .i64,.i .i64,.s,.s,.i .u8,.i .u8,.i .u8,.i .u8,.bd,.b,.s,.i .i64,.i .i64,.s,.s,.i .u8,.i .u8,.i .u8,.i .u8,.bd,.b,.s,.i .i64,.i .i64,.s,.s,.i .u8,.i .u8,.i .u8,.rs 21 5 0 .q (some .q),.b,.b],.cells [.i .i64],.cells [.i .i64],.rows q11] 6 6 [⟨.i .i64,[],[],false⟩]:=funC Tryz.func156 Tryz.call156 [(c158 n).e,(c159 n).e,(c161 n).e,(c162 n).e] [] [0] [] [0,1,2,3,4,5] (mX n)
def UF (n:Nat):List (FE Tryz.prog):=[(c157 n).e,(VW n).e]
def Uu (n:Nat):LP Tryz.prog Tryz.f120.ntmps:=cA (UF n) [] 0 (sb (acM [] [] Tryz.f120) 0) true ⟨[(1,.p 1 0),(4,.p 2 0),(13,.rs 21 0 0 .q (some .q)),(14,.i .i64),(15,.i .i64)],[(0,.rows q11),(1,.cells q19),(2,.cells [.i .i64])],3,1,1,1⟩ [] q73 (kx n) n
def c120 (n:Nat):FF Tryz.prog 120 [.ag q19] q72 1 1 [⟨.tp [.i .i64,.i .i64],[],[],false⟩]:=funC Tryz.func120 Tryz.call120 (UF n) [Uu n] [] [] [0] (nE n)
def c79 (n:Nat):FF Tryz.prog 79 [.ag q19] q72 1 1 [⟨.tp [.i .i64,.i .i64],[],[],false⟩]:=funC Tryz.func79 Tryz.call79 [(c118 n).e,(c119 n).e,(c115 n).e,(c120 n).e] [] [] [] [0] (gp n)
def c71E (n:Nat):List (FE Tryz.prog):=[(c108 n).e,(c109 n).e,(c73 n).e,(c111 n).e,(c110 n).e,(c112 n).e,(c113 n).e,(c75 n).e,(c114 n).e,(c79 n).e]
def Xt (n:Nat):LP Tryz.prog Tryz.f71.ntmps:=fi (c71E n) [] 1003 (sb (acM [] [3,16,17] Tryz.f71) 1003) true ⟨[(0,.p 0 0),(2,.p 1 0),(3,.p 2 0),(15,.b)],[(0,.cells q30),(1,.cells q14),(2,.cells [.ik .u8 3,.bk false,.bk false,.sk [],.ik .i64 0,.ik .i64 0,.sk [],.sk [],.ik .u8 0,.ik .u8 0,.ik .u8 0,.ik .u8 0,.bk false,.bk false,.sk [],.ik .i64 0,.ik .i64 0,.sk [],.sk [],.ik .u8 0,.ik .u8 0,.ik .u8 0,.ik .u8 0,.bk false,.bk false,.sk [],.ik .i64 0,.ik .i64 0,.sk [],.sk [],.ik .u8 0,.ik .u8 0,.ik .u8 0,.ws 4,.bk false,.bk false]),(3,.rows q11),(4,.rows q11)],5,1,0,1⟩ [⟨.nrm,⟨[(0,.p 0 0),(2,.p 1 0),(3,.p 2 0)],[(0,.cells q30),(1,.cells q14),(2,.cells [.i .u8,.bk false,.bk false,.sk [],.ik .i64 0,.ik .i64 0,.sk [],.sk [],.ik .u8 0,.ik .u8 0,.ik .u8 0,.ik .u8 0,.bk false,.bk false,.sk [],.ik .i64 0,.ik .i64 0,.sk [],.sk [],.ik .u8 0,.ik .u8 0,.ik .u8 0,.ik .u8 0,.bk false,.bk false,.sk [],.ik .i64 0,.ik .i64 0,.sk [],.sk [],.ik .u8 0,.ik .u8 0,.ik .u8 0,.ws 4,.bk false,.bk false]),(3,.rows q11),(4,.rows q11)],5,1,0,1⟩⟩] (nz n)
def WZ (n:Nat):LP Tryz.prog Tryz.f71.ntmps:=fi (c71E n) [] 1016 (sb (sb (acM [] [3,16,17] Tryz.f71) 0).body 1016) true ⟨q104,q35,7,1,0,1⟩ [⟨.nrm,q92⟩] (mi n)
def VJ (n:Nat):LP Tryz.prog Tryz.f71.ntmps:=fi (c71E n) [] 1017 (sb (sb (acM [] [3,16,17] Tryz.f71) 0).body 1017) true q92 [⟨.pan (.it 129 (.ag [.i .i64,.i .i64])),⟨[],q54,1,1,0,1⟩⟩,⟨.nrm,⟨q104,[(0,.cells q30),(1,.cells q22),(2,.cells q27),(3,.rows [.i .i64]),(4,.cells q20),(5,.rows q11),(6,.rows q11)],7,1,0,1⟩⟩] (mq n)
def Yn (n:Nat):LP Tryz.prog Tryz.f71.ntmps:=cA (c71E n) [WZ n,VJ n] 0 (sb (acM [] [3,16,17] Tryz.f71) 0) true ⟨q124,[(0,.cells q30),(1,.cells q23),(2,.cells q47),(3,.rows [.i .i64]),(4,.rows q11),(5,.rows q11)],6,1,0,1⟩ [.nilT 6 1000 [.i .i64]] [⟨.pan (.it 129 (.ag [.i .i64,.i .i64])),⟨[],q54,1,1,0,1⟩⟩,⟨.exit 0,⟨q124,[(0,.cells q30),(1,.cells q63),(2,.cells q43),(3,.rows [.i .i64]),(4,.rows q11),(5,.rows q11)],6,1,0,1⟩⟩] (fq n) n
def c71 (n:Nat):FF Tryz.prog 71 [.p 0 0] q90 0 1 [⟨.it 129 (.ag [.i .i64,.i .i64]),q54,[],true⟩,⟨.ag [.i .u8,.bd,.b,.s,.i .i64,.i .i64,.s,.s,.i .u8,.i .u8,.i .u8,.i .u8,.bd,.b,.s,.i .i64,.i .i64,.s,.s,.i .u8,.i .u8,.i .u8,.i .u8,.bd,.b,.s,.i .i64,.i .i64,.s,.s,.i .u8,.i .u8,.i .u8,.rs 21 1 0 .q (some .q),.b,.b],[(0,.cells q30),(1,.rows q11)],[1],false⟩]:=funC Tryz.func71 Tryz.call71 (c71E n) [Xt n,Yn n] [] [3,16,17] [0] (nJ n)
def c72 (n:Nat):FF Tryz.prog 72 [.p 2 0,.i .i64] [.cells q30,.rows q11,.cells q55] 2 3 [⟨.tp [],[(2,.cells q55)],[],false⟩]:=funC Tryz.func72 Tryz.call72 [] [] [] [] [2,0,1] (f9 n)
def UC (n:Nat):FF Tryz.prog 72 [.p 2 0,.i .i64] [.cells q30,.rows q11,.cells q58] 2 3 [⟨.tp [],[(2,.cells q58)],[],false⟩]:=funC Tryz.func72 Tryz.call72 [] [] [] [] [2,0,1] (cQ n)
def M5 (_n:Nat):Ent:=Q6 148
theorem IJ (n:Nat):fH Tryz.prog (M5 n):=NU Tryz.call148 λs c w h1 h2 h3=>Tryz.strings_TrimRight_laid s c w h1 h2 h3
def c148 (n:Nat):FE Tryz.prog:=libF (IJ n)
def VI (n:Nat):PF Tryz.prog 192 [.s,.sk [45]] (.b):=aK Tryz.func192 Tryz.call192 [] [] [] [] (fB n)
def c203 (n:Nat):PF Tryz.prog 203 [.s,.sk [45]] (.s):=aK Tryz.func203 Tryz.call203 [(VI n).e] [] [] [] (ge n)
def c149 (n:Nat):PF Tryz.prog 149 [.s,.sk [45]] (.s):=aK Tryz.func149 Tryz.call149 [(c203 n).e] [] [] [] (jn n)
end
end Go.Sh
